/- Walks of the functions: each returns what its condition asks. -/
import Derived.Test.YteahldlmkheleaaGreatLWalksS
set_option linter.all false
namespace Go.Proofs.YteahldlmkheleaaGreat
open Go Go.Sv
set_option maxHeartbeats 1000000
theorem W8 (HC:S12) (Ds:S15) (It:S17) (Bh:S22) (sb:S23) (Cg:S24) (LK:S25) (LJ:S26) (E3:S27) (k9:S9) (w0) (X0) (Q:Bool->Prop) (hm:VC8 Q) :
  Ret Tryz.prog 8 #[] aM w0 X0 (fun w X' v=>∃ r,Q r/\v=.bool r):=by
 unfold VC8 at hm
 refine enter Tryz.func8 rfl (vals:=[]) kr ?_
 intro Z a hS hO hM
 refine rPe T hS [] [] fun a hS=>?_
 refine br ?_
 refine op1 (call hS kr kr hb22 kr (fun _ _=>rfl) (Bh _ _ 0 0) ?_)
 intro v101 a fH fK hE hp hS
 replace hO:=hO.m2 hE
 obtain ⟨ea,dZ,je,jd,hp,h107,h110⟩:=hp
 obtain ⟨ay,hr⟩:∃ r,cy 0=r:=⟨_,rfl⟩
 replace hm:=hm ay hr
 rw [hr] at hp h107 h110
 clear hr
 subst hp
 replace h110:=h110.rs0
 replace hm:=hm (h107.sm kr)
 replace hm:=hm (h110.sm kr)
 obtain ⟨hq,hm⟩:=hm
 refine op1 (call hS kr kr hb9 kr (fun _ _=>rfl) (k9 _ _ ay ea dZ je jd hq h107 h110) ?_)
 intro v111 a Bt wT hE hp hS
 replace hO:=hO.m2 hE
 replace h107:=h107.m1 hE
 replace h110:=h110.m1 hE
 obtain ⟨dA,hr⟩:∃ r,fe ay=r:=⟨_,rfl⟩
 replace hm:=hm dA hr
 rw [hr] at hp
 clear hr
 subst hp
 refine ePe T hS [20,21] [(1,B dA.1),(2,I dA.2)] fun a hS=>?_
 refine br ?_
 refine op1 (call hS kr kr hb22 kr (fun _ _=>rfl) (Bh _ _ 1 0) ?_)
 intro v115 a uY yq hE hp hS
 replace hO:=hO.m2 hE
 obtain ⟨rR,rH,lG,lD,hp,h121,h124⟩:=hp
 obtain ⟨ir,hr⟩:∃ r,cy 1=r:=⟨_,rfl⟩
 replace hm:=hm ir hr
 rw [hr] at hp h121 h124
 clear hr
 subst hp
 replace h124:=h124.rs0
 replace hm:=hm (h121.sm kr)
 replace hm:=hm (h124.sm kr)
 obtain ⟨hq,hm⟩:=hm
 refine op1 (call hS kr kr hb9 kr (fun _ _=>rfl) (k9 _ _ ir rR rH lG lD hq h121 h124) ?_)
 intro v125 a uW rT hE hp hS
 replace hO:=hO.m2 hE
 replace h121:=h121.m1 hE
 replace h124:=h124.m1 hE
 obtain ⟨bU,hr⟩:∃ r,fe ir=r:=⟨_,rfl⟩
 replace hm:=hm bU hr
 rw [hr] at hp
 clear hr
 subst hp
 refine ePe T hS [25,26] [(3,B bU.1),(4,I bU.2)] fun a hS=>?_
 refine br ?_
 refine op1 (call hS kr kr hb22 kr (fun _ _=>rfl) (Bh _ _ 0 0) ?_)
 intro v129 a uV De hE hp hS
 replace hO:=hO.m2 hE
 obtain ⟨pA,pw,nZ,nV,hp,h135,h138⟩:=hp
 obtain ⟨gP,hr⟩:∃ r,cy 0=r:=⟨_,rfl⟩
 replace hm:=hm gP hr
 rw [hr] at hp h135 h138
 clear hr
 subst hp
 replace h138:=h138.rs0
 replace hm:=hm (h135.sm kr)
 replace hm:=hm (h138.sm kr)
 obtain ⟨hq,hm⟩:=hm
 refine op1 (call hS kr kr hb15 kr (fun _ _=>rfl) (Ds _ _ gP pA pw nZ nV hq h135 h138) ?_)
 intro v139 a zZ Bc hE hp hS
 replace hO:=hO.m2 hE
 replace h135:=h135.m1 hE
 replace h138:=h138.m1 hE
 obtain ⟨gG,gF,hp,h145⟩:=hp
 obtain ⟨b9,hr⟩:∃ r,bV gP=r:=⟨_,rfl⟩
 replace hm:=hm b9 hr
 rw [hr] at hp h145
 clear hr
 subst hp
 replace hm:=hm (h145.sm kr)
 refine ePe T hS [30,31] [(5,Sl gG b9.1 gF),(6,I b9.2)] fun a hS=>?_
 refine br ?_
 refine op1 (call hS kr kr hb22 kr (fun _ _=>rfl) (Bh _ _ 1 0) ?_)
 intro v146 a uU yl hE hp hS
 replace hO:=hO.m2 hE
 replace h145:=h145.m1 hE
 obtain ⟨uJ,uC,MO,MH,hp,h152,h155⟩:=hp
 obtain ⟨mu,hr⟩:∃ r,cy 1=r:=⟨_,rfl⟩
 replace hm:=hm mu hr
 rw [hr] at hp h152 h155
 clear hr
 subst hp
 replace h155:=h155.rs0
 replace hm:=hm (h152.sm kr)
 replace hm:=hm (h155.sm kr)
 obtain ⟨hq,hm⟩:=hm
 refine op1 (call hS kr kr hb15 kr (fun _ _=>rfl) (Ds _ _ mu uJ uC MO MH hq h152 h155) ?_)
 intro v156 a zY A8 hE hp hS
 replace hO:=hO.m2 hE
 replace h145:=h145.m1 hE
 replace h152:=h152.m1 hE
 replace h155:=h155.m1 hE
 obtain ⟨A4,AV,hp,h162⟩:=hp
 obtain ⟨iK,hr⟩:∃ r,bV mu=r:=⟨_,rfl⟩
 replace hm:=hm iK hr
 rw [hr] at hp h162
 clear hr
 subst hp
 replace hm:=hm (h162.sm kr)
 refine ePe T hS [35,36] [(8,I iK.2)] fun a hS=>?_
 refine br ?_
 refine op1 (call hS kr kr hb22 kr (fun _ _=>rfl) (Bh _ _ 0 0) ?_)
 intro v163 a FX J0 hE hp hS
 replace hO:=hO.m2 hE
 replace h145:=h145.m1 hE
 obtain ⟨wM,wB,qc,p9,hp,h169,h172⟩:=hp
 obtain ⟨tP,hr⟩:∃ r,cy 0=r:=⟨_,rfl⟩
 replace hm:=hm tP hr
 rw [hr] at hp h169 h172
 clear hr
 subst hp
 replace h172:=h172.rs0
 replace hm:=hm (h169.sm kr)
 replace hm:=hm (h172.sm kr)
 obtain ⟨hq,hm⟩:=hm
 refine op1 (call hS kr kr hb23 kr (fun _ _=>rfl) (sb _ _ tP wM wB qc p9 hq h169 h172) ?_)
 intro v173 a HU Nd hE hp hS
 replace hO:=hO.m2 hE
 replace h145:=h145.m1 hE
 replace h169:=h169.m1 hE
 replace h172:=h172.m1 hE
 obtain ⟨fa,hr⟩:∃ r,aD tP=r:=⟨_,rfl⟩
 replace hm:=hm fa hr
 rw [hr] at hp
 clear hr
 subst hp
 refine ePe T hS [40,41] [(9,I fa.1),(10,I fa.2)] fun a hS=>?_
 refine br ?_
 refine oPe T hS 1 [] [(45,V (.agg #[.slice none 0 0,.slice none 0 0]))] fun a hS=>?_
 obtain ⟨hq,hm⟩:=hm
 refine op1 (call hS kr kr hb23 kr (fun _ _=>rfl) (sb _ _ (⟨[],[]⟩:ak) none 0 none 0 hq (RS.empty _ _ _) (RS.empty _ _ _)) ?_)
 intro v177 a DF EI hE hp hS
 replace hO:=hO.m2 hE
 replace h145:=h145.m1 hE
 obtain ⟨jt,hr⟩:∃ r,aD (⟨[],[]⟩:ak)=r:=⟨_,rfl⟩
 replace hm:=hm jt hr
 rw [hr] at hp
 clear hr
 subst hp
 refine ePe T hS [45,46] [(12,I jt.2)] fun a hS=>?_
 refine br ?_
 refine op1 (call hS kr kr hb22 kr (fun _ _=>rfl) (Bh _ _ 0 1050) ?_)
 intro v181 a Pb Rn hE hp hS
 replace hO:=hO.m2 hE
 replace h145:=h145.m1 hE
 obtain ⟨A3,AU,wL,wA,hp,h187,h190⟩:=hp
 obtain ⟨gW,hr⟩:∃ r,cy 0=r:=⟨_,rfl⟩
 replace hm:=hm gW hr
 rw [hr] at hp h187 h190
 clear hr
 subst hp
 replace hm:=hm (h187.sm kr)
 replace hm:=hm (h190.sm kr)
 refine eM T hS ⟨[(1,B dA.1),(2,I dA.2),(3,B bU.1),(4,I bU.2),(5,Sl gG b9.1 gF),(6,I b9.2),(8,I iK.2),(9,I fa.1),(10,I fa.2),(12,I jt.2),(13,Pt 14 0)],[(14,(25,[Sl A3 gW.ae AU,Sl wL gW.al wA]))]⟩ fun Z a On QK hS hE hr=>?_
 replace hO:=hO.m2 hE
 replace h145:=h145.m1 hE
 replace h187:=h187.m1 hE
 replace h190:=h190.m2 hE
 clear hE hr
 refine br ?_
 refine oPe T hS 2 [] [(51,Sl wL gW.al wA)] fun a hS=>?_
 obtain ⟨zr,hm⟩:=hm
 refine op1 (nO (E:=63) (k:=.i64) T hS kr kr kr kr h190 kr kr zr.1 zr.2 ?_)
 intro RR a h193 h192 hS
 have h194:=h193.ad
 clear h193 h192
 refine op1 (ux (off:=0) (fsz:=1) (ft:=3) T hS kr kr kr h194 kr kr ?_)
 intro RN a h197 hS
 refine op1 (tD (m:=1) (off:=0) (x:=(⟨1,(gi gW.al 3).aN⟩:aV)) (v:=I 1) (i:=(3:Int).toNat) (E:=63) (xs:=gW.al) T hS kr kr kr kr h190 h197 (by have:=zr.1; have:=zr.2; (try simp only [List.length_set]); omega) kr kr rfl (fun _ _ _ h=>by cases h; rfl) ?_)
 intro a HQ hE h199 hS
 clear h190
 replace hO:=hO.m2 hE
 replace h145:=h145.m1 hE
 replace h187:=h187.m1 hE
 have zn:=hS.cell (id:=14) (t:=25) (cs:=[Sl A3 gW.ae AU,Sl wL gW.al wA]) kr
 replace zn:=zn.conv (vals':=[.slice A3 gW.ae.length AU,.slice wL (gW.al.set (3:Int).toNat (⟨1,(gi gW.al 3).aN⟩:aV)).length wA]) (by rw [List.length_set]; rfl)
 replace hS:=hS.cI (id:=14) (t:=25) (cs:=[Sl A3 gW.ae AU,Sl wL (gW.al.set (3:Int).toNat (⟨1,(gi gW.al 3).aN⟩:aV)) wA]) kr zn
 clear zn
 replace hS:=hS.conv (t:=51) (y:=.slice wL (gW.al.set (3:Int).toNat (⟨1,(gi gW.al 3).aN⟩:aV)).length wA) kr (by rw [List.length_set])
 refine iy ?_
 refine br ?_
 refine oP T hS 1 ⟨[(1,B dA.1),(2,I dA.2),(3,B bU.1),(4,I bU.2),(5,Sl gG b9.1 gF),(6,I b9.2),(8,I iK.2),(9,I fa.1),(10,I fa.2),(12,I jt.2),(55,V (.agg #[.slice A3 gW.ae.length AU,.slice wL (gW.al.set (3:Int).toNat (⟨1,(gi gW.al 3).aN⟩:aV)).length wA]))],[]⟩ fun a hS=>?_
 obtain ⟨hq,hm⟩:=hm
 refine op1 (call hS kr kr hb23 kr (fun _ _=>rfl) (Ret.nB (sb _ (eL 1050 _) (⟨gW.ae,(gW.al.set (3:Int).toNat (⟨1,(gi gW.al 3).aN⟩:aV))⟩:ak) A3 AU wL wA hq (h187.m0 (M0.eL 1050)) h199.eL)) ?_)
 intro v201 a Ky M4 hE hp hS
 replace hO:=hO.m2 hE
 replace h145:=h145.m1 hE
 replace h187:=h187.m1 hE
 replace h199:=h199.m2 hE
 obtain ⟨_,hp⟩:=hp
 obtain ⟨fW,hr⟩:∃ r,aD (⟨gW.ae,(gW.al.set (3:Int).toNat (⟨1,(gi gW.al 3).aN⟩:aV))⟩:ak)=r:=⟨_,rfl⟩
 replace hm:=hm fW hr
 rw [hr] at hp
 clear hr
 subst hp
 refine ePe T hS [55,56] [(14,I fW.1),(15,I fW.2)] fun a hS=>?_
 refine br ?_
 refine op1 (call hS kr kr hb22 kr (fun _ _=>rfl) (Bh _ _ 1 0) ?_)
 intro v205 a Kw MY hE hp hS
 replace hO:=hO.m2 hE
 replace h145:=h145.m1 hE
 obtain ⟨MM,MF,A2,AS,hp,h211,h214⟩:=hp
 obtain ⟨tO,hr⟩:∃ r,cy 1=r:=⟨_,rfl⟩
 replace hm:=hm tO hr
 rw [hr] at hp h211 h214
 clear hr
 subst hp
 replace h214:=h214.rs0
 replace hm:=hm (h211.sm kr)
 replace hm:=hm (h214.sm kr)
 obtain ⟨hq,hm⟩:=hm
 refine op1 (call hS kr kr hb24 kr (fun _ _=>rfl) (Cg _ _ tO MM MF A2 AS hq h211 h214) ?_)
 intro v215 a O0 Rf hE hp hS
 replace hO:=hO.m2 hE
 replace h145:=h145.m1 hE
 replace h211:=h211.m1 hE
 replace h214:=h214.m1 hE
 obtain ⟨pz,pv,nc,m8,hp,h221,h224⟩:=hp
 obtain ⟨gl,hr⟩:∃ r,cY tO=r:=⟨_,rfl⟩
 replace hm:=hm gl hr
 rw [hr] at hp h221 h224
 clear hr
 subst hp
 replace hm:=hm (h221.sm kr)
 replace hm:=hm (h224.sm kr)
 refine ePe T hS [60,61] [(16,Sl pz gl.1 pv),(17,Sl nc gl.2 m8)] fun a hS=>?_
 refine br ?_
 refine op1 (call hS kr kr hb22 kr (fun _ _=>rfl) (Bh _ _ 1 0) ?_)
 intro v225 a OX Rc hE hp hS
 replace hO:=hO.m2 hE
 replace h145:=h145.m1 hE
 replace h221:=h221.m1 hE
 replace h224:=h224.m1 hE
 obtain ⟨ML,ME,MK,MD,hp,h231,h234⟩:=hp
 obtain ⟨tN,hr⟩:∃ r,cy 1=r:=⟨_,rfl⟩
 replace hm:=hm tN hr
 rw [hr] at hp h231 h234
 clear hr
 subst hp
 replace h234:=h234.rs0
 replace hm:=hm (h231.sm kr)
 replace hm:=hm (h234.sm kr)
 obtain ⟨hq,hm⟩:=hm
 refine op1 (call hS kr kr hb17 kr (fun _ _=>rfl) (It _ _ tN 1 ML ME MK MD hq h231 h234) ?_)
 intro v235 a Kt MV hE hp hS
 replace hO:=hO.m2 hE
 replace h145:=h145.m1 hE
 replace h221:=h221.m1 hE
 replace h224:=h224.m1 hE
 replace h231:=h231.m1 hE
 replace h234:=h234.m1 hE
 obtain ⟨nb,m7,oS,oL,hp,h241,h244⟩:=hp
 obtain ⟨df,hr⟩:∃ r,dG tN 1=r:=⟨_,rfl⟩
 replace hm:=hm df hr
 rw [hr] at hp h241 h244
 clear hr
 subst hp
 replace hm:=hm (h241.sm kr)
 replace hm:=hm (h244.sm kr)
 refine eM T hS ⟨[(1,B dA.1),(2,I dA.2),(3,B bU.1),(4,I bU.2),(5,Sl gG b9.1 gF),(6,I b9.2),(8,I iK.2),(9,I fa.1),(10,I fa.2),(12,I jt.2),(14,I fW.1),(15,I fW.2),(16,Sl pz gl.1 pv),(17,Sl nc gl.2 m8),(18,Pt 19 0)],[(19,(51,[I df.az.au,I df.az.aA,I df.az.aH,Sl nb df.az.Rows m7,Sl oS df.al oL]))]⟩ fun Z a Oo QL hS hE hr=>?_
 replace hO:=hO.m2 hE
 replace h145:=h145.m1 hE
 replace h221:=h221.m1 hE
 replace h224:=h224.m1 hE
 replace h241:=h241.m1 hE
 replace h244:=h244.m1 hE
 clear hE hr
 refine dB [19] mixed hS ?_
 intro Kr MT hS hE hD hH
 replace hO:=hO.m2 hE
 replace h145:=h145.m1 hE
 replace h221:=h221.m1 hE
 replace h224:=h224.m1 hE
 replace h241:=h241.m1 hE
 replace h244:=h244.m1 hE
 refine tke T [0,1] [19] hS hH #[true,true,false,false,false,false,false,false,false,false,false,false,false,false,false,false,false,false,false,false,false,false,false,false,false,false,false,false,false,false,false,false,false,false,false,false,false,false,false,false,false,false,false,false,false,false,false,false,false,false,false,false,false,false,false,false,false,false,false,false,false,false,false,false,false,false,false,false,false,false,false,false,false,false,false,false,false,false,false] 77 [1] [(67,B dA.1)] fun a hS=>?_
 refine jX (tc:=67) (b:=dA.1) (f:=fun c=>⟨[(3,B bU.1),(4,I bU.2),(5,Sl gG b9.1 gF),(6,I b9.2),(8,I iK.2),(9,I fa.1),(10,I fa.2),(12,I jt.2),(14,I fW.1),(15,I fW.2),(16,Sl pz gl.1 pv),(17,Sl nc gl.2 m8),(18,Pt 19 0),(70,B (c && (dA.2 == 0)))],[(19,(51,[I df.az.au,I df.az.aA,I df.az.aH,Sl nb df.az.Rows m7,Sl oS df.al oL]))]⟩) T [2,3,4] [19] [3,4,5,6,8,9,10,12,14,15,16,17,18,70] hS kr kr kr kr hH (listed':=#[true,true,true,true,true,false,false,false,false,false,false,false,false,false,false,false,false,false,false,false,false,false,false,false,false,false,false,false,false,false,false,false,false,false,false,false,false,false,false,false,false,false,false,false,false,false,false,false,false,false,false,false,false,false,false,false,false,false,false,false,false,false,false,false,false,false,false,false,false,false,false,false,false,false,false,false,false,false,false]) (fuel:=74) kr kr (by rfl) ?_
 intro a hS
 refine tke T [5] [19] hS hH #[true,true,true,true,true,true,false,false,false,false,false,false,false,false,false,false,false,false,false,false,false,false,false,false,false,false,false,false,false,false,false,false,false,false,false,false,false,false,false,false,false,false,false,false,false,false,false,false,false,false,false,false,false,false,false,false,false,false,false,false,false,false,false,false,false,false,false,false,false,false,false,false,false,false,false,false,false,false,false] 73 [70] [(71,B (dA.1 && (dA.2 == 0)))] fun a hS=>?_
 refine jX (tc:=71) (b:=(dA.1 && (dA.2 == 0))) (f:=fun c=>⟨[(4,I bU.2),(5,Sl gG b9.1 gF),(6,I b9.2),(8,I iK.2),(9,I fa.1),(10,I fa.2),(12,I jt.2),(14,I fW.1),(15,I fW.2),(16,Sl pz gl.1 pv),(17,Sl nc gl.2 m8),(18,Pt 19 0),(74,B (c && (!bU.1)))],[(19,(51,[I df.az.au,I df.az.aA,I df.az.aH,Sl nb df.az.Rows m7,Sl oS df.al oL]))]⟩) T [6,7,8] [19] [4,5,6,8,9,10,12,14,15,16,17,18,74] hS kr kr kr kr hH (listed':=#[true,true,true,true,true,true,true,true,true,false,false,false,false,false,false,false,false,false,false,false,false,false,false,false,false,false,false,false,false,false,false,false,false,false,false,false,false,false,false,false,false,false,false,false,false,false,false,false,false,false,false,false,false,false,false,false,false,false,false,false,false,false,false,false,false,false,false,false,false,false,false,false,false,false,false,false,false,false,false]) (fuel:=70) kr kr (by rfl) ?_
 intro a hS
 refine tke T [9] [19] hS hH #[true,true,true,true,true,true,true,true,true,true,false,false,false,false,false,false,false,false,false,false,false,false,false,false,false,false,false,false,false,false,false,false,false,false,false,false,false,false,false,false,false,false,false,false,false,false,false,false,false,false,false,false,false,false,false,false,false,false,false,false,false,false,false,false,false,false,false,false,false,false,false,false,false,false,false,false,false,false,false] 69 [74] [(75,B ((dA.1 && (dA.2 == 0)) && (!bU.1)))] fun a hS=>?_
 refine jX (tc:=75) (b:=((dA.1 && (dA.2 == 0)) && (!bU.1))) (f:=fun c=>⟨[(5,Sl gG b9.1 gF),(6,I b9.2),(8,I iK.2),(9,I fa.1),(10,I fa.2),(12,I jt.2),(14,I fW.1),(15,I fW.2),(16,Sl pz gl.1 pv),(17,Sl nc gl.2 m8),(18,Pt 19 0),(78,B (c && (bU.2 == 0)))],[(19,(51,[I df.az.au,I df.az.aA,I df.az.aH,Sl nb df.az.Rows m7,Sl oS df.al oL]))]⟩) T [10,11,12] [19] [5,6,8,9,10,12,14,15,16,17,18,78] hS kr kr kr kr hH (listed':=#[true,true,true,true,true,true,true,true,true,true,true,true,true,false,false,false,false,false,false,false,false,false,false,false,false,false,false,false,false,false,false,false,false,false,false,false,false,false,false,false,false,false,false,false,false,false,false,false,false,false,false,false,false,false,false,false,false,false,false,false,false,false,false,false,false,false,false,false,false,false,false,false,false,false,false,false,false,false,false]) (fuel:=66) kr kr (by rfl) ?_
 intro a hS
 refine tke T [13] [19] hS hH #[true,true,true,true,true,true,true,true,true,true,true,true,true,true,false,false,false,false,false,false,false,false,false,false,false,false,false,false,false,false,false,false,false,false,false,false,false,false,false,false,false,false,false,false,false,false,false,false,false,false,false,false,false,false,false,false,false,false,false,false,false,false,false,false,false,false,false,false,false,false,false,false,false,false,false,false,false,false,false] 65 [78] [(79,B (((dA.1 && (dA.2 == 0)) && (!bU.1)) && (bU.2 == 0)))] fun a hS=>?_
 refine jX (tc:=79) (b:=(((dA.1 && (dA.2 == 0)) && (!bU.1)) && (bU.2 == 0))) (f:=fun c=>⟨[(5,Sl gG b9.1 gF),(8,I iK.2),(9,I fa.1),(10,I fa.2),(12,I jt.2),(14,I fW.1),(15,I fW.2),(16,Sl pz gl.1 pv),(17,Sl nc gl.2 m8),(18,Pt 19 0),(82,B (c && (b9.2 == 0)))],[(19,(51,[I df.az.au,I df.az.aA,I df.az.aH,Sl nb df.az.Rows m7,Sl oS df.al oL]))]⟩) T [14,15,16] [19] [5,8,9,10,12,14,15,16,17,18,82] hS kr kr kr kr hH (listed':=#[true,true,true,true,true,true,true,true,true,true,true,true,true,true,true,true,true,false,false,false,false,false,false,false,false,false,false,false,false,false,false,false,false,false,false,false,false,false,false,false,false,false,false,false,false,false,false,false,false,false,false,false,false,false,false,false,false,false,false,false,false,false,false,false,false,false,false,false,false,false,false,false,false,false,false,false,false,false,false]) (fuel:=62) kr kr (by rfl) ?_
 intro a hS
 refine tke T [17] [19] hS hH #[true,true,true,true,true,true,true,true,true,true,true,true,true,true,true,true,true,true,false,false,false,false,false,false,false,false,false,false,false,false,false,false,false,false,false,false,false,false,false,false,false,false,false,false,false,false,false,false,false,false,false,false,false,false,false,false,false,false,false,false,false,false,false,false,false,false,false,false,false,false,false,false,false,false,false,false,false,false,false] 61 [82] [(83,B ((((dA.1 && (dA.2 == 0)) && (!bU.1)) && (bU.2 == 0)) && (b9.2 == 0)))] fun a hS=>?_
 rcases bft ((((dA.1 && (dA.2 == 0)) && (!bU.1)) && (bU.2 == 0)) && (b9.2 == 0)) with hb | hb
 ·replace hS:=hS.lit (t:=83) kr hb
  replace hm:=hm.1 hb
  refine tke T [19] [19] hS hH #[true,true,true,true,true,true,true,true,true,true,true,true,true,true,true,true,true,true,false,true,false,false,false,false,false,false,false,false,false,false,false,false,false,false,false,false,false,false,false,false,false,false,false,false,false,false,false,false,false,false,false,false,false,false,false,false,false,false,false,false,false,false,false,false,false,false,false,false,false,false,false,false,false,false,false,false,false,false,false] 60 [] [(85,Sl gG b9.1 gF)] fun a hS=>?_
  refine only 18 kr (by rfl) (call hS kr kr hb22 kr (fun _ _=>rfl) (Bh _ _ 0 0) ?_)
  intro v247 a HN MR hE hp hS
  replace hO:=hO.m2 hE
  replace hD:=hD.ev hE rfl
  replace h145:=h145.m1 hE
  replace h221:=h221.m1 hE
  replace h224:=h224.m1 hE
  replace h241:=h241.m1 hE
  replace h244:=h244.m1 hE
  obtain ⟨JL,Jx,JK,Jw,hp,h253,h256⟩:=hp
  obtain ⟨qG,hr⟩:∃ r,cy 0=r:=⟨_,rfl⟩
  replace hm:=hm qG hr
  rw [hr] at hp h253 h256
  clear hr
  subst hp
  replace h256:=h256.rs0
  replace hm:=hm (h253.sm kr)
  replace hm:=hm (h256.sm kr)
  replace hS:=hS.sle [] [(84,V (.agg #[.slice JL qG.ae.length Jx,.slice JK qG.al.length Jw]))]
  refine da (bO.of hS (bks:=[19]) kr hD) ?_
  intro hH
  obtain ⟨hq,hm⟩:=hm
  refine only 20 kr (by rfl) (call hS kr kr hb12 kr (fun _ _=>rfl) (HC _ _ qG b9.1 JL Jx JK Jw gG gF hq h253 h256 h145) ?_)
  intro v257 a Kq MQ hE hp hS
  replace hO:=hO.m2 hE
  replace hD:=hD.ev hE rfl
  replace h145:=h145.m1 hE
  replace h221:=h221.m1 hE
  replace h224:=h224.m1 hE
  replace h241:=h241.m1 hE
  replace h244:=h244.m1 hE
  replace h253:=h253.m1 hE
  replace h256:=h256.m1 hE
  obtain ⟨ib,hr⟩:∃ r,eH qG b9.1=r:=⟨_,rfl⟩
  replace hm:=hm ib hr
  rw [hr] at hp
  clear hr
  subst hp
  replace hS:=hS.sle [] [(86,B ib)]
  refine da (bO.of hS (bks:=[19]) kr hD) ?_
  intro hH
  refine tke T [21,22] [19] hS hH #[true,true,true,true,true,true,true,true,true,true,true,true,true,true,true,true,true,true,true,true,true,true,true,false,false,false,false,false,false,false,false,false,false,false,false,false,false,false,false,false,false,false,false,false,false,false,false,false,false,false,false,false,false,false,false,false,false,false,false,false,false,false,false,false,false,false,false,false,false,false,false,false,false,false,false,false,false,false,false] 56 [83,85,84,86] [(88,B ib)] fun a hS=>?_
  refine jX (tc:=88) (b:=ib) (f:=fun c=>⟨[(8,I iK.2),(9,I fa.1),(10,I fa.2),(12,I jt.2),(14,I fW.1),(15,I fW.2),(16,Sl pz gl.1 pv),(17,Sl nc gl.2 m8),(18,Pt 19 0),(92,B (c && ((lN b9.1) == 2)))],[(19,(51,[I df.az.au,I df.az.aA,I df.az.aH,Sl nb df.az.Rows m7,Sl oS df.al oL]))]⟩) T [23,24,25,26] [19] [8,9,10,12,14,15,16,17,18,92] hS kr kr kr kr hH (listed':=#[true,true,true,true,true,true,true,true,true,true,true,true,true,true,true,true,true,true,true,true,true,true,true,true,true,true,true,false,false,false,false,false,false,false,false,false,false,false,false,false,false,false,false,false,false,false,false,false,false,false,false,false,false,false,false,false,false,false,false,false,false,false,false,false,false,false,false,false,false,false,false,false,false,false,false,false,false,false,false]) (fuel:=52) kr kr (by rfl) ?_
  intro a hS
  refine tke T [27] [19] hS hH #[true,true,true,true,true,true,true,true,true,true,true,true,true,true,true,true,true,true,true,true,true,true,true,true,true,true,true,true,false,false,false,false,false,false,false,false,false,false,false,false,false,false,false,false,false,false,false,false,false,false,false,false,false,false,false,false,false,false,false,false,false,false,false,false,false,false,false,false,false,false,false,false,false,false,false,false,false,false,false] 51 [92] [(93,B (ib && ((lN b9.1) == 2)))] fun a hS=>?_
  refine jX (tc:=93) (b:=(ib && ((lN b9.1) == 2))) (f:=fun c=>⟨[(9,I fa.1),(10,I fa.2),(12,I jt.2),(14,I fW.1),(15,I fW.2),(16,Sl pz gl.1 pv),(17,Sl nc gl.2 m8),(18,Pt 19 0),(96,B (c && (iK.2 == 41)))],[(19,(51,[I df.az.au,I df.az.aA,I df.az.aH,Sl nb df.az.Rows m7,Sl oS df.al oL]))]⟩) T [28,29,30] [19] [9,10,12,14,15,16,17,18,96] hS kr kr kr kr hH (listed':=#[true,true,true,true,true,true,true,true,true,true,true,true,true,true,true,true,true,true,true,true,true,true,true,true,true,true,true,true,true,true,true,false,false,false,false,false,false,false,false,false,false,false,false,false,false,false,false,false,false,false,false,false,false,false,false,false,false,false,false,false,false,false,false,false,false,false,false,false,false,false,false,false,false,false,false,false,false,false,false]) (fuel:=48) kr kr (by rfl) ?_
  intro a hS
  refine tke T [31] [19] hS hH #[true,true,true,true,true,true,true,true,true,true,true,true,true,true,true,true,true,true,true,true,true,true,true,true,true,true,true,true,true,true,true,true,false,false,false,false,false,false,false,false,false,false,false,false,false,false,false,false,false,false,false,false,false,false,false,false,false,false,false,false,false,false,false,false,false,false,false,false,false,false,false,false,false,false,false,false,false,false,false] 47 [96] [(97,B ((ib && ((lN b9.1) == 2)) && (iK.2 == 41)))] fun a hS=>?_
  refine jX (tc:=97) (b:=((ib && ((lN b9.1) == 2)) && (iK.2 == 41))) (f:=fun c=>⟨[(10,I fa.2),(12,I jt.2),(14,I fW.1),(15,I fW.2),(16,Sl pz gl.1 pv),(17,Sl nc gl.2 m8),(18,Pt 19 0),(100,B (c && (fa.1 == 4)))],[(19,(51,[I df.az.au,I df.az.aA,I df.az.aH,Sl nb df.az.Rows m7,Sl oS df.al oL]))]⟩) T [32,33,34] [19] [10,12,14,15,16,17,18,100] hS kr kr kr kr hH (listed':=#[true,true,true,true,true,true,true,true,true,true,true,true,true,true,true,true,true,true,true,true,true,true,true,true,true,true,true,true,true,true,true,true,true,true,true,false,false,false,false,false,false,false,false,false,false,false,false,false,false,false,false,false,false,false,false,false,false,false,false,false,false,false,false,false,false,false,false,false,false,false,false,false,false,false,false,false,false,false,false]) (fuel:=44) kr kr (by rfl) ?_
  intro a hS
  refine tke T [35] [19] hS hH #[true,true,true,true,true,true,true,true,true,true,true,true,true,true,true,true,true,true,true,true,true,true,true,true,true,true,true,true,true,true,true,true,true,true,true,true,false,false,false,false,false,false,false,false,false,false,false,false,false,false,false,false,false,false,false,false,false,false,false,false,false,false,false,false,false,false,false,false,false,false,false,false,false,false,false,false,false,false,false] 43 [100] [(101,B (((ib && ((lN b9.1) == 2)) && (iK.2 == 41)) && (fa.1 == 4)))] fun a hS=>?_
  refine jX (tc:=101) (b:=(((ib && ((lN b9.1) == 2)) && (iK.2 == 41)) && (fa.1 == 4))) (f:=fun c=>⟨[(12,I jt.2),(14,I fW.1),(15,I fW.2),(16,Sl pz gl.1 pv),(17,Sl nc gl.2 m8),(18,Pt 19 0),(104,B (c && (fa.2 == 0)))],[(19,(51,[I df.az.au,I df.az.aA,I df.az.aH,Sl nb df.az.Rows m7,Sl oS df.al oL]))]⟩) T [36,37,38] [19] [12,14,15,16,17,18,104] hS kr kr kr kr hH (listed':=#[true,true,true,true,true,true,true,true,true,true,true,true,true,true,true,true,true,true,true,true,true,true,true,true,true,true,true,true,true,true,true,true,true,true,true,true,true,true,true,false,false,false,false,false,false,false,false,false,false,false,false,false,false,false,false,false,false,false,false,false,false,false,false,false,false,false,false,false,false,false,false,false,false,false,false,false,false,false,false]) (fuel:=40) kr kr (by rfl) ?_
  intro a hS
  refine tke T [39] [19] hS hH #[true,true,true,true,true,true,true,true,true,true,true,true,true,true,true,true,true,true,true,true,true,true,true,true,true,true,true,true,true,true,true,true,true,true,true,true,true,true,true,true,false,false,false,false,false,false,false,false,false,false,false,false,false,false,false,false,false,false,false,false,false,false,false,false,false,false,false,false,false,false,false,false,false,false,false,false,false,false,false] 39 [104] [(105,B ((((ib && ((lN b9.1) == 2)) && (iK.2 == 41)) && (fa.1 == 4)) && (fa.2 == 0)))] fun a hS=>?_
  refine jX (tc:=105) (b:=((((ib && ((lN b9.1) == 2)) && (iK.2 == 41)) && (fa.1 == 4)) && (fa.2 == 0))) (f:=fun c=>⟨[(14,I fW.1),(15,I fW.2),(16,Sl pz gl.1 pv),(17,Sl nc gl.2 m8),(18,Pt 19 0),(108,B (c && (jt.2 == 2)))],[(19,(51,[I df.az.au,I df.az.aA,I df.az.aH,Sl nb df.az.Rows m7,Sl oS df.al oL]))]⟩) T [40,41,42] [19] [14,15,16,17,18,108] hS kr kr kr kr hH (listed':=#[true,true,true,true,true,true,true,true,true,true,true,true,true,true,true,true,true,true,true,true,true,true,true,true,true,true,true,true,true,true,true,true,true,true,true,true,true,true,true,true,true,true,true,false,false,false,false,false,false,false,false,false,false,false,false,false,false,false,false,false,false,false,false,false,false,false,false,false,false,false,false,false,false,false,false,false,false,false,false]) (fuel:=36) kr kr (by rfl) ?_
  intro a hS
  refine tke T [43] [19] hS hH #[true,true,true,true,true,true,true,true,true,true,true,true,true,true,true,true,true,true,true,true,true,true,true,true,true,true,true,true,true,true,true,true,true,true,true,true,true,true,true,true,true,true,true,true,false,false,false,false,false,false,false,false,false,false,false,false,false,false,false,false,false,false,false,false,false,false,false,false,false,false,false,false,false,false,false,false,false,false,false] 35 [108] [(109,B (((((ib && ((lN b9.1) == 2)) && (iK.2 == 41)) && (fa.1 == 4)) && (fa.2 == 0)) && (jt.2 == 2)))] fun a hS=>?_
  refine jX (tc:=109) (b:=(((((ib && ((lN b9.1) == 2)) && (iK.2 == 41)) && (fa.1 == 4)) && (fa.2 == 0)) && (jt.2 == 2))) (f:=fun c=>⟨[(15,I fW.2),(16,Sl pz gl.1 pv),(17,Sl nc gl.2 m8),(18,Pt 19 0),(112,B (c && (fW.1 == 3)))],[(19,(51,[I df.az.au,I df.az.aA,I df.az.aH,Sl nb df.az.Rows m7,Sl oS df.al oL]))]⟩) T [44,45,46] [19] [15,16,17,18,112] hS kr kr kr kr hH (listed':=#[true,true,true,true,true,true,true,true,true,true,true,true,true,true,true,true,true,true,true,true,true,true,true,true,true,true,true,true,true,true,true,true,true,true,true,true,true,true,true,true,true,true,true,true,true,true,true,false,false,false,false,false,false,false,false,false,false,false,false,false,false,false,false,false,false,false,false,false,false,false,false,false,false,false,false,false,false,false,false]) (fuel:=32) kr kr (by rfl) ?_
  intro a hS
  refine tke T [47] [19] hS hH #[true,true,true,true,true,true,true,true,true,true,true,true,true,true,true,true,true,true,true,true,true,true,true,true,true,true,true,true,true,true,true,true,true,true,true,true,true,true,true,true,true,true,true,true,true,true,true,true,false,false,false,false,false,false,false,false,false,false,false,false,false,false,false,false,false,false,false,false,false,false,false,false,false,false,false,false,false,false,false] 31 [112] [(113,B ((((((ib && ((lN b9.1) == 2)) && (iK.2 == 41)) && (fa.1 == 4)) && (fa.2 == 0)) && (jt.2 == 2)) && (fW.1 == 3)))] fun a hS=>?_
  refine jX (tc:=113) (b:=((((((ib && ((lN b9.1) == 2)) && (iK.2 == 41)) && (fa.1 == 4)) && (fa.2 == 0)) && (jt.2 == 2)) && (fW.1 == 3))) (f:=fun c=>⟨[(16,Sl pz gl.1 pv),(17,Sl nc gl.2 m8),(18,Pt 19 0),(116,B (c && (fW.2 == 32)))],[(19,(51,[I df.az.au,I df.az.aA,I df.az.aH,Sl nb df.az.Rows m7,Sl oS df.al oL]))]⟩) T [48,49,50] [19] [16,17,18,116] hS kr kr kr kr hH (listed':=#[true,true,true,true,true,true,true,true,true,true,true,true,true,true,true,true,true,true,true,true,true,true,true,true,true,true,true,true,true,true,true,true,true,true,true,true,true,true,true,true,true,true,true,true,true,true,true,true,true,true,true,false,false,false,false,false,false,false,false,false,false,false,false,false,false,false,false,false,false,false,false,false,false,false,false,false,false,false,false]) (fuel:=28) kr kr (by rfl) ?_
  intro a hS
  refine tke T [51] [19] hS hH #[true,true,true,true,true,true,true,true,true,true,true,true,true,true,true,true,true,true,true,true,true,true,true,true,true,true,true,true,true,true,true,true,true,true,true,true,true,true,true,true,true,true,true,true,true,true,true,true,true,true,true,true,false,false,false,false,false,false,false,false,false,false,false,false,false,false,false,false,false,false,false,false,false,false,false,false,false,false,false] 27 [116] [(117,B (((((((ib && ((lN b9.1) == 2)) && (iK.2 == 41)) && (fa.1 == 4)) && (fa.2 == 0)) && (jt.2 == 2)) && (fW.1 == 3)) && (fW.2 == 32)))] fun a hS=>?_
  refine jX (tc:=117) (b:=(((((((ib && ((lN b9.1) == 2)) && (iK.2 == 41)) && (fa.1 == 4)) && (fa.2 == 0)) && (jt.2 == 2)) && (fW.1 == 3)) && (fW.2 == 32))) (f:=fun c=>⟨[(17,Sl nc gl.2 m8),(18,Pt 19 0),(121,B (c && ((lN gl.1) == 2)))],[(19,(51,[I df.az.au,I df.az.aA,I df.az.aH,Sl nb df.az.Rows m7,Sl oS df.al oL]))]⟩) T [52,53,54,55] [19] [17,18,121] hS kr kr kr kr hH (listed':=#[true,true,true,true,true,true,true,true,true,true,true,true,true,true,true,true,true,true,true,true,true,true,true,true,true,true,true,true,true,true,true,true,true,true,true,true,true,true,true,true,true,true,true,true,true,true,true,true,true,true,true,true,true,true,true,true,false,false,false,false,false,false,false,false,false,false,false,false,false,false,false,false,false,false,false,false,false,false,false]) (fuel:=23) kr kr (by rfl) ?_
  intro a hS
  refine tke T [56] [19] hS hH #[true,true,true,true,true,true,true,true,true,true,true,true,true,true,true,true,true,true,true,true,true,true,true,true,true,true,true,true,true,true,true,true,true,true,true,true,true,true,true,true,true,true,true,true,true,true,true,true,true,true,true,true,true,true,true,true,true,false,false,false,false,false,false,false,false,false,false,false,false,false,false,false,false,false,false,false,false,false,false] 22 [121] [(122,B ((((((((ib && ((lN b9.1) == 2)) && (iK.2 == 41)) && (fa.1 == 4)) && (fa.2 == 0)) && (jt.2 == 2)) && (fW.1 == 3)) && (fW.2 == 32)) && ((lN gl.1) == 2)))] fun a hS=>?_
  rcases bft ((((((((ib && ((lN b9.1) == 2)) && (iK.2 == 41)) && (fa.1 == 4)) && (fa.2 == 0)) && (jt.2 == 2)) && (fW.1 == 3)) && (fW.2 == 32)) && ((lN gl.1) == 2)) with hb | hb
  ·replace hS:=hS.lit (t:=122) kr hb
   replace hm:=hm.1 hb
   refine tke T [57] [19] hS hH #[true,true,true,true,true,true,true,true,true,true,true,true,true,true,true,true,true,true,true,true,true,true,true,true,true,true,true,true,true,true,true,true,true,true,true,true,true,true,true,true,true,true,true,true,true,true,true,true,true,true,true,true,true,true,true,true,true,true,false,false,false,false,false,false,false,false,false,false,false,false,false,false,false,false,false,false,false,false,false] 21 [17] [(123,Sl nc gl.2 m8)] fun a hS=>?_
   refine only 58 kr (by rfl) (lit (E:=3) (col:=0) (T:=tI) (vals:=[.int .i64 0,.int .i64 1]) (ys:=[0,1]) T hS kr kr kr kr (by exact ⟨rfl,rfl,trivial⟩) rfl kr kr kr kr ?_)
   intro b261 a OE QW hE h264 hN hS
   clear hN
   replace hO:=hO.m2 hE
   replace hD:=hD.ev hE rfl
   replace h145:=h145.m1 hE
   replace h221:=h221.m1 hE
   replace h224:=h224.m1 hE
   replace h241:=h241.m1 hE
   replace h244:=h244.m1 hE
   replace h253:=h253.m1 hE
   replace h256:=h256.m1 hE
   replace h264:=h264.rs0
   refine da (bO.of hS (bks:=[19]) kr hD) ?_
   intro hH
   refine only 59 kr (by rfl) (call hS kr kr hb25 kr (fun _ _=>rfl) (LK _ _ gl.2 [0,1] nc m8 (some ⟨b261,0,none⟩) 2 h224 h264) ?_)
   intro v265 a OC QU hE hp hS
   replace hO:=hO.m2 hE
   replace hD:=hD.ev hE rfl
   replace h145:=h145.m1 hE
   replace h221:=h221.m1 hE
   replace h224:=h224.m1 hE
   replace h241:=h241.m1 hE
   replace h244:=h244.m1 hE
   replace h253:=h253.m1 hE
   replace h256:=h256.m1 hE
   replace h264:=h264.m1 hE
   obtain ⟨r9,hr⟩:∃ r,e8 gl.2 [0,1]=r:=⟨_,rfl⟩
   replace hm:=hm r9 hr
   rw [hr] at hp
   clear hr
   subst hp
   replace hS:=hS.sle [] [(125,B r9)]
   refine da (bO.of hS (bks:=[19]) kr hD) ?_
   intro hH
   refine tke T [60,61] [19] hS hH #[true,true,true,true,true,true,true,true,true,true,true,true,true,true,true,true,true,true,true,true,true,true,true,true,true,true,true,true,true,true,true,true,true,true,true,true,true,true,true,true,true,true,true,true,true,true,true,true,true,true,true,true,true,true,true,true,true,true,true,true,true,true,false,false,false,false,false,false,false,false,false,false,false,false,false,false,false,false,false] 17 [122,123,124,125] [(127,B r9)] fun a hS=>?_
   refine jX (tc:=127) (b:=r9) (f:=fun c=>⟨[(18,Pt 19 0),(132,B (c && ((lN df.al) == 2)))],[(19,(51,[I df.az.au,I df.az.aA,I df.az.aH,Sl nb df.az.Rows m7,Sl oS df.al oL]))]⟩) T [62,63,64,65,66] [19] [18,132] hS kr kr kr kr hH (listed':=#[true,true,true,true,true,true,true,true,true,true,true,true,true,true,true,true,true,true,true,true,true,true,true,true,true,true,true,true,true,true,true,true,true,true,true,true,true,true,true,true,true,true,true,true,true,true,true,true,true,true,true,true,true,true,true,true,true,true,true,true,true,true,true,true,true,true,true,false,false,false,false,false,false,false,false,false,false,false,false]) (fuel:=12) kr kr (by rfl) ?_
   intro a hS
   refine tke T [67] [19] hS hH #[true,true,true,true,true,true,true,true,true,true,true,true,true,true,true,true,true,true,true,true,true,true,true,true,true,true,true,true,true,true,true,true,true,true,true,true,true,true,true,true,true,true,true,true,true,true,true,true,true,true,true,true,true,true,true,true,true,true,true,true,true,true,true,true,true,true,true,true,false,false,false,false,false,false,false,false,false,false,false] 11 [132] [(133,B (r9 && ((lN df.al) == 2)))] fun a hS=>?_
   rcases bft (r9 && ((lN df.al) == 2)) with hb | hb
   ·replace hS:=hS.lit (t:=133) kr hb
    replace hm:=hm.1 hb
    refine tke T [68,69] [19] hS hH #[true,true,true,true,true,true,true,true,true,true,true,true,true,true,true,true,true,true,true,true,true,true,true,true,true,true,true,true,true,true,true,true,true,true,true,true,true,true,true,true,true,true,true,true,true,true,true,true,true,true,true,true,true,true,true,true,true,true,true,true,true,true,true,true,true,true,true,true,true,true,false,false,false,false,false,false,false,false,false] 9 [18] [(135,V (.agg #[.int .i64 df.az.au,.int .i64 df.az.aA,.int .i64 df.az.aH,.slice nb df.az.Rows.length m7]))] fun a hS=>?_
    refine only 70 kr (by rfl) (call hS kr kr hb27 kr (fun _ _=>rfl) (E3 _ _) ?_)
    intro v269 a OA QS hE hp hS
    replace hO:=hO.m2 hE
    replace hD:=hD.ev hE rfl
    replace h145:=h145.m1 hE
    replace h221:=h221.m1 hE
    replace h224:=h224.m1 hE
    replace h241:=h241.m1 hE
    replace h244:=h244.m1 hE
    replace h253:=h253.m1 hE
    replace h256:=h256.m1 hE
    replace h264:=h264.m1 hE
    obtain ⟨JI,Ju,hp,h275⟩:=hp
    obtain ⟨qF,hr⟩:∃ r,dy=r:=⟨_,rfl⟩
    replace hm:=hm qF hr
    rw [hr] at hp h275
    clear hr
    subst hp
    replace hm:=hm (h275.sm kr)
    replace hS:=hS.sle [] [(136,V (.agg #[.int .i64 qF.au,.int .i64 qF.aA,.int .i64 qF.aH,.slice JI qF.Rows.length Ju]))]
    refine da (bO.of hS (bks:=[19]) kr hD) ?_
    intro hH
    refine only 71 kr (by rfl) (call hS kr kr hb26 kr (fun _ _=>rfl) (LJ _ _ df.az qF nb m7 JI Ju h241 h275) ?_)
    intro v276 a Ox QP hE hp hS
    replace hO:=hO.m2 hE
    replace hD:=hD.ev hE rfl
    replace h145:=h145.m1 hE
    replace h221:=h221.m1 hE
    replace h224:=h224.m1 hE
    replace h241:=h241.m1 hE
    replace h244:=h244.m1 hE
    replace h253:=h253.m1 hE
    replace h256:=h256.m1 hE
    replace h264:=h264.m1 hE
    replace h275:=h275.m1 hE
    obtain ⟨vm,hr⟩:∃ r,ji df.az qF=r:=⟨_,rfl⟩
    replace hm:=hm vm hr
    rw [hr] at hp
    clear hr
    subst hp
    replace hS:=hS.sle [] [(137,B vm)]
    refine da (bO.of hS (bks:=[19]) kr hD) ?_
    intro hH
    refine tke T [72,73] [19] hS hH #[true,true,true,true,true,true,true,true,true,true,true,true,true,true,true,true,true,true,true,true,true,true,true,true,true,true,true,true,true,true,true,true,true,true,true,true,true,true,true,true,true,true,true,true,true,true,true,true,true,true,true,true,true,true,true,true,true,true,true,true,true,true,true,true,true,true,true,true,true,true,true,true,true,true,false,false,false,false,false] 5 [133,135,136,137] [(139,B vm)] fun a hS=>?_
    rcases bft vm with hb | hb
    ·replace hS:=hS.lit (t:=139) kr hb
     replace hm:=hm.1 hb
     refine only 74 kr (by rfl) (call hS kr kr hb22 kr (fun _ _=>rfl) (Bh _ _ 0 0) ?_)
     intro v280 a Ov MP hE hp hS
     replace hO:=hO.m2 hE
     replace hD:=hD.ev hE rfl
     replace h145:=h145.m1 hE
     replace h221:=h221.m1 hE
     replace h224:=h224.m1 hE
     replace h241:=h241.m1 hE
     replace h244:=h244.m1 hE
     replace h253:=h253.m1 hE
     replace h256:=h256.m1 hE
     replace h264:=h264.m1 hE
     replace h275:=h275.m1 hE
     obtain ⟨JH,Jt,JG,Js,hp,h286,h289⟩:=hp
     obtain ⟨qE,hr⟩:∃ r,cy 0=r:=⟨_,rfl⟩
     replace hm:=hm qE hr
     rw [hr] at hp h286 h289
     clear hr
     subst hp
     replace h289:=h289.rs0
     replace hm:=hm (h286.sm kr)
     replace hm:=hm (h289.sm kr)
     replace hS:=hS.sle [] [(140,V (.agg #[.slice JH qE.ae.length Jt,.slice JG qE.al.length Js]))]
     refine da (bO.of hS (bks:=[19]) kr hD) ?_
     intro hH
     obtain ⟨hq,hm⟩:=hm
     refine only 75 kr (by rfl) (call hS kr kr hb12 kr (fun _ _=>rfl) (HC _ _ qE [] JH Jt JG Js none 0 hq h286 h289 (RS.empty _ _ _)) ?_)
     intro v290 a Oq QM hE hp hS
     replace hO:=hO.m2 hE
     replace hD:=hD.ev hE rfl
     replace h145:=h145.m1 hE
     replace h221:=h221.m1 hE
     replace h224:=h224.m1 hE
     replace h241:=h241.m1 hE
     replace h244:=h244.m1 hE
     replace h253:=h253.m1 hE
     replace h256:=h256.m1 hE
     replace h264:=h264.m1 hE
     replace h275:=h275.m1 hE
     replace h286:=h286.m1 hE
     replace h289:=h289.m1 hE
     obtain ⟨tM,hr⟩:∃ r,eH qE []=r:=⟨_,rfl⟩
     replace hm:=hm tM hr
     rw [hr] at hp
     clear hr
     subst hp
     replace hS:=hS.sle [] [(141,B tM)]
     refine da (bO.of hS (bks:=[19]) kr hD) ?_
     intro hH
     refine tke T [76,77,78] [19] hS hH (tts 79) 0 [139,140,141] [(0,B (!tM))] fun a hS=>?_
     refine aY kr ?_
     replace hS:=hS.sl ⟨[(0,B (!tM))],[]⟩
     refine ba ?_
     exact fin T hS hO (fun c=>c) rfl (r:=[.bool (!tM)]) kr (fun X' hM hC=>⟨(!tM),hm,rfl⟩)
    replace hS:=hS.lit (t:=139) kr hb
    replace hm:=hm.2 hb
    refine tke T [74,75,76,77,78] [19] hS hH (tts 79) 0 [139] [(0,B false)] fun a hS=>?_
    refine aY kr ?_
    replace hS:=hS.sl ⟨[(0,B false)],[]⟩
    refine ba ?_
    exact fin T hS hO (fun c=>c) rfl (r:=[.bool false]) kr (fun X' hM hC=>⟨false,hm,rfl⟩)
   replace hS:=hS.lit (t:=133) kr hb
   replace hm:=hm.2 hb
   refine tke T [68,70,69,71,72,73,74,75,76,77,78] [19] hS hH (tts 79) 0 [18,133] [(0,B false)] fun a hS=>?_
   refine aY kr ?_
   replace hS:=hS.sl ⟨[(0,B false)],[]⟩
   refine ba ?_
   exact fin T hS hO (fun c=>c) rfl (r:=[.bool false]) kr (fun X' hM hC=>⟨false,hm,rfl⟩)
  replace hS:=hS.lit (t:=122) kr hb
  replace hm:=hm.2 hb
  refine tke T [57,58,59,60,61,62,63,64,65,66,67,68,70,69,71,72,73,74,75,76,77,78] [19] hS hH (tts 79) 0 [17,18,122] [(0,B false)] fun a hS=>?_
  refine aY kr ?_
  replace hS:=hS.sl ⟨[(0,B false)],[]⟩
  refine ba ?_
  exact fin T hS hO (fun c=>c) rfl (r:=[.bool false]) kr (fun X' hM hC=>⟨false,hm,rfl⟩)
 replace hS:=hS.lit (t:=83) kr hb
 replace hm:=hm.2 hb
 refine tke T [18,19,20,21,22,23,24,25,26,27,28,29,30,31,32,33,34,35,36,37,38,39,40,41,42,43,44,45,46,47,48,49,50,51,52,53,54,55,56,57,58,59,60,61,62,63,64,65,66,67,68,70,69,71,72,73,74,75,76,77,78] [19] hS hH (tts 79) 0 [5,8,9,10,12,14,15,16,17,18,83] [(0,B false)] fun a hS=>?_
 refine aY kr ?_
 replace hS:=hS.sl ⟨[(0,B false)],[]⟩
 refine ba ?_
 exact fin T hS hO (fun c=>c) rfl (r:=[.bool false]) kr (fun X' hM hC=>⟨false,hm,rfl⟩)
theorem C8 (HC:S12) (Ds:S15) (It:S17) (Bh:S22) (sb:S23) (Cg:S24) (LK:S25) (LJ:S26) (E3:S27) (k9:S9) (v:∀ (_:Unit),VC8 (fun r=>r=fN)):S8:=by
 intro w X     
 refine (W8 HC Ds It Bh sb Cg LK LJ E3 k9 w X     _ (v ())).mono ?_
 rintro _ _ _ _ ⟨r,rfl,h⟩
 exact h
end Go.Proofs.YteahldlmkheleaaGreat
