/- Walks of the functions: each returns what its condition asks. -/
import Derived.Test.YteahldlmkheleaaGreatLWalksS
set_option linter.all false
namespace Go.Proofs.YteahldlmkheleaaGreat
open Go Go.Sv
abbrev zAe0 (i1 i2 i3:Nat):List (Nat × Nat):=[(i1,901),(i2,902),(i3,903)]
set_option maxHeartbeats 1000000
theorem W18 (Gu:S50) (w0) (X0) (l_:List aw) (a1) (c1) (Q:(List ab) × Int->Prop) (hm:VC18 l_ Q) (h1:RS aR w0 X0 a1 l_ c1) :
  Ret Tryz.prog 18 #[.slice a1 l_.length c1] aM w0 X0 (fun w X' v=>∃ r,Q r/\∃ cQ cN,v=.tuple #[.slice cQ r.1.length cN,.int .i64 r.2]/\RS ar w X' cQ r.1 cN):=by
 unfold VC18 at hm
 replace hm:=hm (h1.sm kr)
 refine enter Tryz.func18 rfl (vals:=[.slice a1 l_.length c1]) kr ?_
 intro Z a hS hO hM
 replace h1:=h1.m0 hM
 refine rPe T hS [] [] fun a hS=>?_
 refine br ?_
 refine oPe T hS 1 [] [(11,Sl a1 l_ c1)] fun a hS=>?_
 refine op1 (call hS kr kr hb50 kr (fun _ _=>rfl) (Gu _ _ l_ a1 c1 h1) ?_)
 intro v101 a fH fK hE hp hS
 replace hO:=hO.m2 hE
 replace h1:=h1.m1 hE
 obtain ⟨ay,hr⟩:∃ r,e7 l_=r:=⟨_,rfl⟩
 replace hm:=hm ay hr
 rw [hr] at hp
 clear hr
 subst hp
 refine ePe T hS [11,12] [(5,I ay.2)] fun a hS=>?_
 refine bh ?_
 refine rPe T hS [] [(16,B (ay.2 != 0))] fun a hS=>?_
 refine aI hS (b:=(ay.2 != 0)) kr (fun hb=>?_) fun hb=>?_
 ·replace hm:=hm.1 hb
  refine rPe T hS [0,5,16] [(2,V (.slice none 0 0)),(3,I ay.2)] fun a hS=>?_
  refine ba ?_
  exact fin T hS hO (fun c=>c) rfl (r:=[.slice none 0 0,.int .i64 ay.2]) kr (fun X' hM hC=>⟨([],ay.2),hm,none,0,rfl,RS.empty _ _ _⟩)
 replace hm:=hm.2 hb
 refine aO ?_
 refine rPe T hS [5,16] [(6,V (.slice none 0 0))] fun a hS=>?_
 refine cb (fun a w=>∃ (Z:Nat->Nat) (X:Nat->Nat) (gZ:List ab) (kP:Option Addr) (kN:Nat),VC18_J1 Q gZ/\St Tryz.f18.ntmps ⟨[(6,Sl kP gZ kN)],[]⟩ Z a w X/\Old w0 X0 w X/\OS ar 102 w X 1003 kP gZ kN) ?_ ?_
 ·refine rPe T hS [] [(7,I 0)] fun a hS=>?_
  refine aQ ?_
  obtain ⟨I1,μ1,cJ,hm⟩:=hm
  refine cH (σ:=(List ab) × Int) (fun s a w=>∃ Z X jG jE,I1 s.1 s.2/\St Tryz.f18.ntmps ⟨[(0,Sl a1 l_ c1),(6,Sl jG s.1 jE),(7,I s.2)],[]⟩ Z a w X/\Old w0 X0 w X/\RS aR w X a1 l_ c1/\OS ar 102 w X 1003 jG s.1 jE) (fun s=>μ1 s.1 s.2) (⟨[],0⟩) ?_ ?_
  ·exact ⟨Z,_,none,0,cJ,hS.sl _,hO,h1,(OS.nil _ _ _ _ _)⟩
  rintro ⟨cZ,a9⟩ a O3 ⟨Z,Rj,jG,jE,hI,hS,hO,h111,h115⟩
  replace hm:=hm cZ a9 hI
  clear hI cJ
  refine bh ?_
  refine rPe T hS [] [(21,B (decide (a9 < (lN l_))))] fun a hS=>?_
  refine aI hS (b:=decide (a9 < (lN l_))) kr (fun hb=>?_) fun hb=>?_
  ·replace hm:=hm.1 hb
   refine aO ?_
   refine cb (fun a w=>∃ (Z:Nat->Nat) (X:Nat->Nat) (jJ:List ab) (rR:Option Addr) (rH:Nat),VC18_J2 I1 μ1 cZ a9 jJ/\St Tryz.f18.ntmps ⟨[(0,Sl a1 l_ c1),(6,Sl rR jJ rH),(7,I a9)],[]⟩ Z a w X/\Old w0 X0 w X/\RS aR w X a1 l_ c1/\OS ar 102 w X 1003 rR jJ rH) ?_ ?_
   ·refine aQ ?_
    refine bh ?_
    refine br ?_
    refine oPe T hS 2 [21] [(24,Sl a1 l_ c1),(25,I a9)] fun a hS=>?_
    obtain ⟨hq,hm⟩:=hm
    refine op1 (index (e:=61) (k:=.i64) T hS kr kr kr kr h111 kr kr hq.1 hq.2 ?_)
    intro Dl a h123 hS
    refine op1 (fD (off:=0) (fsz:=1) (ft:=3) (TF:=tI) (y:=(gi l_ a9).bm) T hS kr kr kr h123 kr kr kr (fun cs h=>lZ h) ?_)
    intro Ht a h125 hS
    refine op1 (eT T hS kr kr kr h125 rfl kr ?_)
    intro v126 a hv hS
    cases hv
    refine ePe T hS [24,25,26,27,28] [(29,B (((gi l_ a9).bm) != 1))] fun a hS=>?_
    refine aI hS (b:=(((gi l_ a9).bm) != 1)) kr (fun hb=>?_) fun hb=>?_
    ·replace hm:=hm.1 hb
     refine cu (by rfl) ?_
     exact ⟨Z,_,cZ,jG,jE,hm,hS.sl _,hO,h111,h115⟩
    replace hm:=hm.2 hb
    refine aO ?_
    refine dB [] mixed hS ?_
    intro tw Bd hS hE hD hH
    replace hO:=hO.m2 hE
    replace h111:=h111.m1 hE
    replace h115:=h115.m2 hE
    refine tke T [0,1,5,6,10] [] hS hH #[true,true,false,false,false,true,true,false,false,false,true,false,false,false] 9 [] [(30,Sl a1 l_ c1),(31,I a9),(35,Sl a1 l_ c1),(36,I a9),(40,I a9)] fun a hS=>?_
    obtain ⟨hq,hm⟩:=hm
    refine dg (e:=61) (k:=.i64) T 2 hS kr kr kr (by rfl) kr hH kr kr h111 kr kr hq.1 hq.2 ?_
    intro Nu a h130 hS
    have CD:=h130.here
    refine dt (off:=1) (fsz:=1) (ft:=3) (TF:=tI) (y:=(gi l_ a9).ah) 3 T hS kr kr kr (by rfl) kr hH kr h130 kr kr kr (fun cs h=>iq h) ?_
    intro Ka a h132 fO hS
    have vU:=CD
    rw [← fO] at vU
    clear fO
    refine dQ T 4 hS kr kr kr (by rfl) kr hH kr h132 vU rfl kr ?_
    intro v133 a hv hS
    cases hv
    obtain ⟨hq,hm⟩:=hm
    refine dg (e:=61) (k:=.i64) T 7 hS kr kr kr (by rfl) kr hH kr kr h111 kr kr hq.1 hq.2 ?_
    intro Sf a h135 hS
    have Jc:=h135.here
    refine dt (off:=2) (fsz:=1) (ft:=3) (TF:=tI) (y:=(gi l_ a9).N) 8 T hS kr kr kr (by rfl) kr hH kr h135 kr kr kr (fun cs h=>oW h) ?_
    intro Hs a h137 fO hS
    have zE:=Jc
    rw [← fO] at zE
    clear fO
    refine dQ T 9 hS kr kr kr (by rfl) kr hH kr h137 zE rfl kr ?_
    intro v138 a hv hS
    cases hv
    refine tke T [11] [] hS hH #[true,true,true,true,true,true,true,true,true,true,true,true,false,false] 2 [30,31,35,36,40,32,33,34,37,38,39] [(41,V (.agg #[.int .i64 ((gi l_ a9).ah),.int .i64 ((gi l_ a9).N),.int .i64 a9,.int .i64 (-1),.int .i64 (-1)]))] fun a hS=>?_
    replace hS:=hS.sl ⟨[(0,Sl a1 l_ c1),(6,Sl jG cZ jE),(7,I a9),(41,V (.agg #[.int .i64 ((gi l_ a9).ah),.int .i64 ((gi l_ a9).N),.int .i64 a9,.int .i64 (-1),.int .i64 (-1)]))],[]⟩
    refine only 12 kr (by rfl) (MI T hS kr kr kr (sy':=⟨[(8,Pt 9 0),(0,Sl a1 l_ c1),(6,Sl jG cZ jE),(7,I a9),(41,V (.agg #[.int .i64 ((gi l_ a9).ah),.int .i64 ((gi l_ a9).N),.int .i64 a9,.int .i64 (-1),.int .i64 (-1)]))],[(9,(102,[I 0,I 0,I 0,I 0,I 0]))]⟩) kr ?_)
    intro Z a tu wQ hS hE E6
    replace hO:=hO.m2 hE
    replace hD:=hD.ev hE rfl
    replace h111:=h111.m1 hE
    replace h115:=h115.m2 hE
    replace h130:=h130.m1 hE
    replace h132:=h132.m1 hE
    replace h135:=h135.m1 hE
    replace h137:=h137.m1 hE
    replace hS:=hS.sl ⟨[(0,Sl a1 l_ c1),(6,Sl jG cZ jE),(7,I a9),(41,V (.agg #[.int .i64 ((gi l_ a9).ah),.int .i64 ((gi l_ a9).N),.int .i64 a9,.int .i64 (-1),.int .i64 (-1)])),(8,Pt 9 0)],[(9,(102,[I 0,I 0,I 0,I 0,I 0]))]⟩
    refine da ((bO.of hS (bks:=[]) kr hD).rho E6 kr) ?_
    intro hH
    replace hS:=hS.sl ⟨[(0,Sl a1 l_ c1),(6,Sl jG cZ jE),(7,I a9),(41,V (.agg #[.int .i64 ((gi l_ a9).ah),.int .i64 ((gi l_ a9).N),.int .i64 a9,.int .i64 (-1),.int .i64 (-1)])),(8,Pt 9 0)],[(9,(102,[I 0,I 0,I 0,I 0,I 0]))]⟩
    refine only 13 kr (by rfl) (BB T hS kr kr (sy':=⟨[(0,Sl a1 l_ c1),(6,Sl jG cZ jE),(7,I a9),(41,V (.agg #[.int .i64 ((gi l_ a9).ah),.int .i64 ((gi l_ a9).N),.int .i64 a9,.int .i64 (-1),.int .i64 (-1)])),(8,Pt 9 0)],[(9,(102,[I ((gi l_ a9).ah),I ((gi l_ a9).N),I a9,I (-1),I (-1)])),(9,(102,[I 0,I 0,I 0,I 0,I 0]))]⟩) kr ?_)
    intro a r6 sd hS hE
    replace hO:=hO.m2 hE
    replace hD:=hD.ev hE rfl
    replace h111:=h111.m1 hE
    replace h115:=h115.m2 hE
    replace h130:=h130.m1 hE
    replace h132:=h132.m1 hE
    replace h135:=h135.m1 hE
    replace h137:=h137.m1 hE
    replace hS:=hS.sl ⟨[(0,Sl a1 l_ c1),(6,Sl jG cZ jE),(7,I a9),(41,V (.agg #[.int .i64 ((gi l_ a9).ah),.int .i64 ((gi l_ a9).N),.int .i64 a9,.int .i64 (-1),.int .i64 (-1)])),(8,Pt 9 0)],[(9,(102,[I ((gi l_ a9).ah),I ((gi l_ a9).N),I a9,I (-1),I (-1)]))]⟩
    refine da ((bO.of hS (bks:=[]) kr hD).rho E6 kr) ?_
    intro hH
    refine aY kr ?_
    replace hS:=hS.sle [41] []
    refine cb (fun a w=>∃ (Z:Nat->Nat) (X:Nat->Nat) (tr:List ab) (ma:Int) (n5:Int) (gK:Int) (fU:Int) (uT:Int) (uK:Option Addr) (uD:Nat),VC18_J3 I1 μ1 cZ a9 tr ma n5 gK fU uT/\St Tryz.f18.ntmps ⟨[(0,Sl a1 l_ c1),(6,Sl uK tr uD),(7,I a9),(8,Pt 9 0)],[(9,(102,[I ma,I n5,I gK,I fU,I uT]))]⟩ Z a w X/\Old w0 X0 w X/\RS aR w X a1 l_ c1/\OS ar 102 w X 1003 uK tr uD) ?_ ?_
    ·refine rPe T hS [] [(9,I (wR (a9+1)))] fun a hS=>?_
     refine aQ ?_
     obtain ⟨I2,μ2,cJ,hm⟩:=hm
     refine cH (σ:=(List ab) × Int × Int × Int × Int × Int × Int) (fun s a w=>∃ Z X rO rF,I2 s.1 s.2.1 s.2.2.1 s.2.2.2.1 s.2.2.2.2.1 s.2.2.2.2.2.1 s.2.2.2.2.2.2/\St Tryz.f18.ntmps ⟨[(0,Sl a1 l_ c1),(6,Sl rO s.1 rF),(7,I a9),(8,Pt 9 0),(9,I s.2.1)],[(9,(102,[I s.2.2.1,I s.2.2.2.1,I s.2.2.2.2.1,I s.2.2.2.2.2.1,I s.2.2.2.2.2.2]))]⟩ Z a w X/\Old w0 X0 w X/\RS aR w X a1 l_ c1/\OS ar 102 w X 1003 rO s.1 rF) (fun s=>μ2 s.1 s.2.1 s.2.2.1 s.2.2.2.1 s.2.2.2.2.1 s.2.2.2.2.2.1 s.2.2.2.2.2.2) (⟨cZ,wR (a9+1),(gi l_ a9).ah,(gi l_ a9).N,a9,(-1),(-1)⟩) ?_ ?_
     ·exact ⟨Z,_,jG,jE,cJ,hS.sl _,hO,h111,h115⟩
     rintro ⟨xf,lg,mT,jv,xe,zT,Bm⟩ a O6 ⟨Z,M3,rO,rF,hI,hS,hO,h163,h167⟩
     replace hm:=hm xf lg mT jv xe zT Bm hI
     clear hI cJ
     refine bh ?_
     refine rPe T hS [] [(52,B ((decide (lg < (lN l_))) && (decide (zT < 0))))] (sp:=[48]) fun a hS=>?_
     refine aI hS (b:=((decide (lg < (lN l_))) && (decide (zT < 0)))) kr (fun hb=>?_) fun hb=>?_
     ·replace hm:=hm.1 hb
      refine aO ?_
      refine cb (fun a w=>∃ (Z:Nat->Nat) (X:Nat->Nat) (lI:List ab) (gb:Int) (DC:Int) (nY:Option Addr) (nU:Nat),VC18_J4 I2 μ2 xf lg mT jv xe zT Bm lI gb DC/\St Tryz.f18.ntmps ⟨[(0,Sl a1 l_ c1),(6,Sl nY lI nU),(7,I a9),(8,Pt 9 0),(9,I lg)],[(9,(102,[I mT,I jv,I xe,I gb,I DC]))]⟩ Z a w X/\Old w0 X0 w X/\RS aR w X a1 l_ c1/\OS ar 102 w X 1003 nY lI nU) ?_ ?_
      ·refine aQ ?_
       refine dB [9] mixed hS ?_
       intro KF JV hS hE hD hH
       replace hO:=hO.m2 hE
       replace h163:=h163.m1 hE
       replace h167:=h167.m2 hE
       refine tke T [0,1,5,6] [9] hS hH #[true,true,false,false,false,true,true,false,false,false,false] 7 [] [(55,Sl a1 l_ c1),(56,I lg),(60,Sl a1 l_ c1),(61,I a9)] fun a hS=>?_
       obtain ⟨hq,hm⟩:=hm
       refine dg (e:=61) (k:=.i64) T 2 hS kr kr kr (by rfl) kr hH kr kr h163 kr kr hq.1 hq.2 ?_
       intro R1 a h184 hS
       have I0:=h184.here
       refine dt (off:=1) (fsz:=1) (ft:=3) (TF:=tI) (y:=(gi l_ lg).ah) 3 T hS kr kr kr (by rfl) kr hH kr h184 kr kr kr (fun cs h=>iq h) ?_
       intro RZ a h186 fO hS
       have FF:=I0
       rw [← fO] at FF
       clear fO
       refine dQ T 4 hS kr kr kr (by rfl) kr hH kr h186 FF rfl kr ?_
       intro v187 a hv hS
       cases hv
       obtain ⟨hq,hm⟩:=hm
       refine dg (e:=61) (k:=.i64) T 7 hS kr kr kr (by rfl) kr hH kr kr h163 kr kr hq.1 hq.2 ?_
       intro RV a h189 hS
       have IZ:=h189.here
       refine dt (off:=1) (fsz:=1) (ft:=3) (TF:=tI) (y:=(gi l_ a9).ah) 8 T hS kr kr kr (by rfl) kr hH kr h189 kr kr kr (fun cs h=>iq h) ?_
       intro RT a h191 fO hS
       have FE:=IZ
       rw [← fO] at FE
       clear fO
       refine dQ T 9 hS kr kr kr (by rfl) kr hH kr h191 FE rfl kr ?_
       intro v192 a hv hS
       cases hv
       refine tke T [10] [9] hS hH (tts 11) 0 [55,56,60,61,57,58,59,62,63,64] [(65,B (((gi l_ lg).ah) == ((gi l_ a9).ah)))] fun a hS=>?_
       refine aY kr ?_
       replace hS:=hS.sle [] []
       refine aI hS (b:=(((gi l_ lg).ah) == ((gi l_ a9).ah))) kr (fun hb=>?_) fun hb=>?_
       ·replace hm:=hm.1 hb
        refine rM T hS ⟨[(0,Sl a1 l_ c1),(6,Sl rO xf rF),(7,I a9),(8,Pt 9 0),(9,I lg)],[(9,(102,[I mT,I jv,I xe,I lg,I Bm]))]⟩ fun Z a Kz M6 hS hE hr=>?_
        replace hO:=hO.m2 hE
        replace h163:=h163.m1 hE
        replace h167:=h167.m2 hE
        clear hE hr
        refine region ?_
        refine oPe T hS 2 [] [(68,Sl a1 l_ c1),(69,I lg)] fun a hS=>?_
        obtain ⟨hq,hm⟩:=hm
        refine op1 (index (e:=61) (k:=.i64) T hS kr kr kr kr h163 kr kr hq.1 hq.2 ?_)
        intro RQ a h194 hS
        refine op1 (fD (off:=2) (fsz:=1) (ft:=3) (TF:=tI) (y:=(gi l_ lg).N) T hS kr kr kr h194 kr kr kr (fun cs h=>oW h) ?_)
        intro RO a h196 hS
        refine op1 (eT T hS kr kr kr h196 rfl kr ?_)
        intro v197 a hv hS
        cases hv
        refine eM T hS ⟨[(0,Sl a1 l_ c1),(6,Sl rO xf rF),(7,I a9),(8,Pt 9 0),(9,I lg)],[(9,(102,[I mT,I jv,I xe,I lg,I ((gi l_ lg).N)]))]⟩ fun Z a HQ JS hS hE hr=>?_
        replace hO:=hO.m2 hE
        replace h163:=h163.m1 hE
        replace h167:=h167.m2 hE
        clear hE hr
        exact ⟨Z,_,xf,lg,(gi l_ lg).N,rO,rF,hm,hS.sl _,hO,h163,h167⟩
       replace hm:=hm.2 hb
       refine aO ?_
       exact ⟨Z,_,xf,zT,Bm,rO,rF,hm,hS.sl _,hO,h163,h167⟩
      rintro a HP ⟨Z,M5,lI,gb,DC,nY,nU,hm,hS,hO,h174,h178⟩
      unfold VC18_J4 at hm
      refine region (ePe T hS [] [(9,I (wR (lg+1)))] fun a hS=>?_)
      exact ⟨⟨lI,wR (lg+1),mT,jv,xe,gb,DC⟩,⟨Z,_,nY,nU,hm.1,hS.sl _,hO,h174,h178⟩,hm.2⟩
     replace hm:=hm.2 hb
     refine cu (by rfl) ?_
     exact ⟨Z,_,xf,mT,jv,xe,zT,Bm,rO,rF,hm,hS.sl _,hO,h163,h167⟩
    rintro a Kv ⟨Z,MZ,tr,ma,n5,gK,fU,uT,uK,uD,hm,hS,hO,h144,h148⟩
    unfold VC18_J3 at hm
    refine region ?_
    refine oP T hS 2 ⟨[(0,Sl a1 l_ c1),(6,Sl uK tr uD),(7,I a9),(74,Sl uK tr uD),(75,V (.agg #[.int .i64 ma,.int .i64 n5,.int .i64 gK,.int .i64 fU,.int .i64 uT]))],[]⟩ fun a hS=>?_
    refine op1 (lit (E:=102) (col:=0) (T:=ar) (vals:=[.agg #[.int .i64 ma,.int .i64 n5,.int .i64 gK,.int .i64 fU,.int .i64 uT]]) (ys:=[(⟨ma,n5,gK,fU,uT⟩:ab)]) T hS kr kr kr kr (by exact ⟨rfl,trivial⟩) rfl kr kr kr kr ?_)
    intro b154 a FY Dc hE h157 hN hS
    clear hN
    replace hO:=hO.m2 hE
    replace h144:=h144.m1 hE
    replace h148:=h148.m2 hE
    replace h157:=h157.rs0
    obtain ⟨hq,hm⟩:=hm
    obtain ⟨news,hN⟩:=h157.src
    refine op1 (append (E:=102) (T:=ar) (col:=1003) (xs:=tr) T hS kr kr kr kr h148 hN kr kr kr kr hq ?_)
    intro JP JB a DJ Hl hE h160 hS
    clear hq hN
    clear h148
    replace hO:=hO.m2 hE
    replace h144:=h144.m1 hE
    replace h157:=h157.m1 hE
    refine ePe T hS [75,76,77] [(6,Sl JP (tr++[(⟨ma,n5,gK,fU,uT⟩:ab)]) JB)] fun a hS=>?_
    exact ⟨Z,_,tr++[(⟨ma,n5,gK,fU,uT⟩:ab)],JP,JB,hm,hS.sl _,hO,h144,h160⟩
   rintro a HO ⟨Z,MX,jJ,rR,rH,hm,hS,hO,h117,h121⟩
   unfold VC18_J2 at hm
   refine region (ePe T hS [] [(7,I (wR (a9+1)))] fun a hS=>?_)
   exact ⟨⟨jJ,wR (a9+1)⟩,⟨Z,_,rR,rH,hm.1,hS.sl _,hO,h117,h121⟩,hm.2⟩
  replace hm:=hm.2 hb
  refine cu (by rfl) ?_
  exact ⟨Z,_,cZ,jG,jE,hm,hS.sl _,hO,h115⟩
 rintro a O1 ⟨Z,Rh,gZ,kP,kN,hm,hS,hO,h108⟩
 unfold VC18_J1 at hm
 refine rPe T hS [6] [(2,Sl kP gZ kN),(3,I 0)] fun a hS=>?_
 refine ba ?_
 obtain ⟨Dh,hE,hF⟩:=h108.freeze (by decide)
 replace hS:=hS.ev hE (c6 kr)
 replace hO:=hO.m2 hE
 have h110:=hF; clear hE hF
 exact fin T hS hO (fun c=>c) rfl (r:=[.slice kP gZ.length kN,.int .i64 0]) kr (fun X' hM hC=>⟨(gZ,0),hm,kP,kN,rfl,h110.m0 hM⟩)
theorem C18 (Gu:S50) (v:∀ (l_:List aw),VC18 l_ (fun r=>r=gD l_)):S18:=by
 intro w X l_ a1 c1   h1
 refine (W18 Gu w X l_ a1 c1   _ (v l_) h1).mono ?_
 rintro _ _ _ _ ⟨r,rfl,h⟩
 exact h
theorem W25 (w0) (X0) (a_:List Int) (b_:List Int) (a1) (c1) (a2) (c2) (Q:Bool->Prop) (hm:VC25 a_ b_ Q) (h1:RS tI w0 X0 a1 a_ c1) (h2:RS tI w0 X0 a2 b_ c2) :
  Ret Tryz.prog 25 #[.slice a1 a_.length c1,.slice a2 b_.length c2] aM w0 X0 (fun w X' v=>∃ r,Q r/\v=.bool r):=by
 unfold VC25 at hm
 replace hm:=hm (h1.sm kr)
 replace hm:=hm (h2.sm kr)
 refine enter Tryz.func25 rfl (vals:=[.slice a1 a_.length c1,.slice a2 b_.length c2]) kr ?_
 intro Z a hS hO hM
 replace h1:=h1.m0 hM
 replace h2:=h2.m0 hM
 refine rPe T hS [] [] fun a hS=>?_
 refine bh ?_
 refine rPe T hS [] [(10,B ((lN a_) != (lN b_)))] fun a hS=>?_
 refine aI hS (b:=((lN a_) != (lN b_))) kr (fun hb=>?_) fun hb=>?_
 ·replace hm:=hm.1 hb
  refine rPe T hS [0,1,10] [(4,B false)] fun a hS=>?_
  refine ba ?_
  exact fin T hS hO (fun c=>c) rfl (r:=[.bool false]) kr (fun X' hM hC=>⟨false,hm,rfl⟩)
 replace hm:=hm.2 hb
 refine aO ?_
 refine cb (fun a w=>∃ Z X,VC25_J1 Q/\St Tryz.f25.ntmps ⟨[],[]⟩ Z a w X/\Old w0 X0 w X) ?_ ?_
 ·refine rPe T hS [10] [(5,I 0)] fun a hS=>?_
  refine aQ ?_
  obtain ⟨I1,μ1,cJ,hm⟩:=hm
  refine cH (σ:=Int) (fun s a w=>∃ Z X,I1 s/\St Tryz.f25.ntmps ⟨[(0,Sl a1 a_ c1),(1,Sl a2 b_ c2),(5,I s)],[]⟩ Z a w X/\Old w0 X0 w X/\RS tI w X a1 a_ c1/\RS tI w X a2 b_ c2) (fun s=>μ1 s) (0) ?_ ?_
  ·exact ⟨Z,_,cJ,hS.sl _,hO,h1,h2⟩
  rintro bj a xi ⟨Z,uN,hI,hS,hO,h101,h102⟩
  replace hm:=hm bj hI
  clear hI cJ
  refine bh ?_
  refine rPe T hS [] [(14,B (decide (bj < (lN a_))))] fun a hS=>?_
  refine aI hS (b:=decide (bj < (lN a_))) kr (fun hb=>?_) fun hb=>?_
  ·replace hm:=hm.1 hb
   refine aO (bh ?_)
   refine aQ ?_
   refine dB [] mixed hS ?_
   intro z6 pD hS hE hD hH
   replace hO:=hO.m2 hE
   replace h101:=h101.m1 hE
   replace h102:=h102.m1 hE
   refine tke T [0,1,4,5] [] hS hH #[true,true,false,false,true,true,false,false,false] 5 [] [(17,Sl a1 a_ c1),(18,I bj),(21,Sl a2 b_ c2),(22,I bj)] fun a hS=>?_
   obtain ⟨hq,hm⟩:=hm
   refine dg (e:=3) (k:=.i64) T 2 hS kr kr kr (by rfl) kr hH kr kr h101 kr kr hq.1 hq.2 ?_
   intro Kb a h107 hS
   have CF:=h107.here
   refine dQ T 3 hS kr kr kr (by rfl) kr hH kr h107 CF rfl kr ?_
   intro v108 a hv hS
   cases hv
   obtain ⟨hq,hm⟩:=hm
   refine dg (e:=3) (k:=.i64) T 6 hS kr kr kr (by rfl) kr hH kr kr h102 kr kr hq.1 hq.2 ?_
   intro yw a h110 hS
   have lz:=h110.here
   refine dQ T 7 hS kr kr kr (by rfl) kr hH kr h110 lz rfl kr ?_
   intro v111 a hv hS
   cases hv
   refine tke T [8] [] hS hH (tts 9) 0 [17,18,21,22,19,20,23,24] [(25,B ((gi a_ bj) != (gi b_ bj)))] fun a hS=>?_
   refine aY kr ?_
   replace hS:=hS.sle [] []
   refine aI hS (b:=((gi a_ bj) != (gi b_ bj))) kr (fun hb=>?_) fun hb=>?_
   ·replace hm:=hm.1 hb
    refine rPe T hS [0,1,5,25] [(4,B false)] fun a hS=>?_
    refine ba ?_
    exact fin T hS hO (fun c=>c) rfl (r:=[.bool false]) kr (fun X' hM hC=>⟨false,hm,rfl⟩)
   replace hm:=hm.2 hb
   refine aO ?_
   refine region (ePe T hS [25] [(5,I (wR (bj+1)))] fun a hS=>?_)
   exact ⟨wR (bj+1),⟨Z,_,hm.1,hS.sl _,hO,h101,h102⟩,hm.2⟩
  replace hm:=hm.2 hb
  refine cu (by rfl) ?_
  exact ⟨Z,_,hm,hS.sl _,hO⟩
 rintro a pY ⟨Z,yu,hm,hS,hO⟩
 unfold VC25_J1 at hm
 refine rPe T hS [] [(4,B true)] fun a hS=>?_
 refine ba ?_
 exact fin T hS hO (fun c=>c) rfl (r:=[.bool true]) kr (fun X' hM hC=>⟨true,hm,rfl⟩)
theorem C25 (v:∀ (a_:List Int) (b_:List Int),VC25 a_ b_ (fun r=>r=e8 a_ b_)):S25:=by
 intro w X a_ b_ a1 c1 a2 c2   h1 h2
 refine (W25 w X a_ b_ a1 c1 a2 c2   _ (v a_ b_) h1 h2).mono ?_
 rintro _ _ _ _ ⟨r,rfl,h⟩
 exact h
theorem W92 (w0) (X0) (s_:List Int) (v_:Int) (a1) (c1) (Q:Int->Prop) (hm:VC92 s_ v_ Q) (h1:RS tI w0 X0 a1 s_ c1) :
  Ret Tryz.prog 92 #[.slice a1 s_.length c1,.int .i64 v_] aM w0 X0 (fun w X' v=>∃ r,Q r/\v=.int .i64 r):=by
 unfold VC92 at hm
 replace hm:=hm (h1.sm kr)
 refine enter Tryz.func92 rfl (vals:=[.slice a1 s_.length c1,.int .i64 v_]) kr ?_
 intro Z a hS hO hM
 replace h1:=h1.m0 hM
 refine rPe T hS [] [] fun a hS=>?_
 refine cb (fun a w=>∃ Z X,VC92_J1 Q/\St Tryz.f92.ntmps ⟨[],[]⟩ Z a w X/\Old w0 X0 w X) ?_ ?_
 ·refine rPe T hS [] [(7,I (lN s_)),(8,I 0)] fun a hS=>?_
  refine aQ ?_
  obtain ⟨I1,μ1,cJ,hm⟩:=hm
  refine cH (σ:=Int) (fun s a w=>∃ Z X,I1 s/\St Tryz.f92.ntmps ⟨[(0,Sl a1 s_ c1),(1,I v_),(7,I (lN s_)),(8,I s)],[]⟩ Z a w X/\Old w0 X0 w X/\RS tI w X a1 s_ c1) (fun s=>μ1 s) (0) ?_ ?_
  ·exact ⟨Z,_,cJ,hS.sl _,hO,h1⟩
  rintro bB a qn ⟨Z,mh,hI,hS,hO,h101⟩
  replace hm:=hm bB hI
  clear hI cJ
  refine rPe T hS [] [(9,B (decide (bB < (lN s_))))] fun a hS=>?_
  refine bh ?_
  refine aI hS (b:=decide (bB < (lN s_))) kr (fun hb=>?_) fun hb=>?_
  ·replace hm:=hm.1 hb
   refine aO (bh ?_)
   refine aQ ?_
   refine rPe T hS [9] [(5,I bB)] fun a hS=>?_
   refine br ?_
   refine oPe T hS 3 [] [(11,I v_),(12,Sl a1 s_ c1),(13,I bB)] fun a hS=>?_
   obtain ⟨hq,hm⟩:=hm
   refine op1 (index (e:=3) (k:=.i64) T hS kr kr kr kr h101 kr kr hq.1 hq.2 ?_)
   intro uP a h104 hS
   refine op1 (eT T hS kr kr kr h104 rfl kr ?_)
   intro v105 a hv hS
   cases hv
   refine ePe T hS [11,12,13,14,15] [(16,B (v_ == (gi s_ bB)))] fun a hS=>?_
   refine aI hS (b:=(v_ == (gi s_ bB))) kr (fun hb=>?_) fun hb=>?_
   ·replace hm:=hm.1 hb
    refine rPe T hS [0,1,5,7,8,16] [(4,I bB)] fun a hS=>?_
    refine ba ?_
    exact fin T hS hO (fun c=>c) rfl (r:=[.int .i64 bB]) kr (fun X' hM hC=>⟨bB,hm,rfl⟩)
   replace hm:=hm.2 hb
   refine aO ?_
   refine region (ePe T hS [5,16] [(8,I (wR (bB+1)))] fun a hS=>?_)
   exact ⟨wR (bB+1),⟨Z,_,hm.1,hS.sl _,hO,h101⟩,hm.2⟩
  replace hm:=hm.2 hb
  refine cu (by rfl) ?_
  exact ⟨Z,_,hm,hS.sl _,hO⟩
 rintro a qm ⟨Z,pC,hm,hS,hO⟩
 unfold VC92_J1 at hm
 refine rPe T hS [] [(4,I (-1))] fun a hS=>?_
 refine ba ?_
 exact fin T hS hO (fun c=>c) rfl (r:=[.int .i64 (-1)]) kr (fun X' hM hC=>⟨(-1),hm,rfl⟩)
theorem C92 (v:∀ (s_:List Int) (v_:Int),VC92 s_ v_ (fun r=>r=dX s_ v_)):S92:=by
 intro w X s_ v_ a1 c1   h1
 refine (W92 w X s_ v_ a1 c1   _ (v s_ v_) h1).mono ?_
 rintro _ _ _ _ ⟨r,rfl,h⟩
 exact h
theorem W77 (K8:S92) (w0) (X0) (s_:List Int) (v_:Int) (a1) (c1) (Q:Bool->Prop) (hm:VC77 s_ v_ Q) (h1:RS tI w0 X0 a1 s_ c1) :
  Ret Tryz.prog 77 #[.slice a1 s_.length c1,.int .i64 v_] aM w0 X0 (fun w X' v=>∃ r,Q r/\v=.bool r):=by
 unfold VC77 at hm
 replace hm:=hm (h1.sm kr)
 refine enter Tryz.func77 rfl (vals:=[.slice a1 s_.length c1,.int .i64 v_]) kr ?_
 intro Z a hS hO hM
 replace h1:=h1.m0 hM
 refine rPe T hS [] [] fun a hS=>?_
 refine br ?_
 refine oPe T hS 2 [0,1] [(5,Sl a1 s_ c1),(6,I v_)] fun a hS=>?_
 refine op1 (call hS kr kr hb92 kr (fun _ _=>rfl) (K8 _ _ s_ v_ a1 c1 h1) ?_)
 intro v101 a fH fK hE hp hS
 replace hO:=hO.m2 hE
 replace h1:=h1.m1 hE
 obtain ⟨ay,hr⟩:∃ r,dX s_ v_=r:=⟨_,rfl⟩
 replace hm:=hm ay hr
 rw [hr] at hp
 clear hr
 subst hp
 refine ePe T hS [5,6,7] [(4,B (decide (ay≥0)))] fun a hS=>?_
 refine ba ?_
 exact fin T hS hO (fun c=>c) rfl (r:=[.bool (decide (ay≥0))]) kr (fun X' hM hC=>⟨(decide (ay≥0)),hm,rfl⟩)
theorem C77 (K8:S92) (v:∀ (s_:List Int) (v_:Int),VC77 s_ v_ (fun r=>r=cw s_ v_)):S77:=by
 intro w X s_ v_ a1 c1   h1
 refine (W77 K8 w X s_ v_ a1 c1   _ (v s_ v_) h1).mono ?_
 rintro _ _ _ _ ⟨r,rfl,h⟩
 exact h
theorem W49 (w0) (X0) (s_:List bc) (a1) (c1) (Q:(List bc)->Prop) (hm:VC49 s_ Q) (h1:RS aB w0 X0 a1 s_ c1) :
  Ret Tryz.prog 49 #[.slice a1 s_.length c1] aM w0 X0 (fun w X' v=>∃ r,Q r/\∃ cQ cN,v=.slice cQ r.length cN/\RS aB w X' cQ r cN):=by
 unfold VC49 at hm
 replace hm:=hm (h1.sm kr)
 refine enter Tryz.func49 rfl (vals:=[.slice a1 s_.length c1]) kr ?_
 intro Z a hS hO hM
 replace h1:=h1.m0 hM
 refine rPe T hS [] [] fun a hS=>?_
 refine bh ?_
 refine br ?_
 refine oPe T hS 1 [] [(3,Sl a1 s_ c1)] fun a hS=>?_
 obtain ⟨b101,hb102⟩:∃ q:Bool,a1.isNone=q:=⟨_,rfl⟩
 replace hm:=hm b101 (h1.Io hb102)
 refine op1 (FN (e:=107) (m:=s_.length) (c:=c1) hS kr kr kr kr Tryz.underlying46 hb102 ?_)
 intro a hS
 clear hb102
 refine iy ?_
 refine aI hS (b:=b101) kr (fun hb=>?_) fun hb=>?_
 ·replace hm:=hm.1 hb
  refine rPe T hS [0,4] [(2,V (.slice none 0 0))] fun a hS=>?_
  refine ba ?_
  exact fin T hS hO (fun c=>c) rfl (r:=[.slice none 0 0]) kr (fun X' hM hC=>⟨[],hm,none,0,rfl,RS.empty _ _ _⟩)
 replace hm:=hm.2 hb
 refine aO ?_
 refine br ?_
 refine op1 (lit (E:=107) (col:=1003) (T:=aB) (vals:=[]) (ys:=([]:List bc)) T hS kr kr kr kr trivial rfl kr kr kr kr ?_)
 intro b103 a z6 pD hE h106 hN hS
 clear hN
 replace hO:=hO.m2 hE
 replace h1:=h1.m1 hE
 refine oPe T hS 1 [0,4] [(6,Sl a1 s_ c1)] fun a hS=>?_
 obtain ⟨hq,hm⟩:=hm
 obtain ⟨news,hN⟩:=h1.src
 refine op1 (append (E:=107) (T:=aB) (col:=1003) (xs:=([]:List bc)) T hS kr kr kr kr h106 hN kr kr kr kr hq ?_)
 intro gR gQ a qn pC hE h109 hS
 clear hq hN
 clear h106
 replace hO:=hO.m2 hE
 replace h1:=h1.m1 hE
 refine ePe T hS [6,7] [(2,Sl gR (([]:List bc)++s_) gQ)] fun a hS=>?_
 refine ba ?_
 obtain ⟨uN,hE,hF⟩:=h109.freeze (by decide)
 replace hS:=hS.ev hE (c6 kr)
 replace hO:=hO.m2 hE
 have h113:=hF; clear hE hF
 exact fin T hS hO (fun c=>c) rfl (r:=[.slice gR (([]:List bc)++s_).length gQ]) kr (fun X' hM hC=>⟨(([]:List bc)++s_),hm,gR,gQ,rfl,h113.m0 hM⟩)
theorem C49 (v:∀ (s_:List bc),zb s_->VC49 s_ (fun r=>r=c8 s_)):S49:=by
 intro w X s_ a1 c1   hp h1
 refine (W49 w X s_ a1 c1   _ (v s_ hp) h1).mono ?_
 rintro _ _ _ _ ⟨r,rfl,h⟩
 exact h
theorem W76 (w0) (X0) (p_:Int × Int) (n_:Int) (Q:Bool->Prop) (hm:VC76 p_ n_ Q) :
  Ret Tryz.prog 76 #[.agg #[.int .i64 p_.1,.int .i64 p_.2],.int .i64 n_] aM w0 X0 (fun w X' v=>∃ r,Q r/\v=.bool r):=by
 unfold VC76 at hm
 refine enter Tryz.func76 rfl (vals:=[.agg #[.int .i64 p_.1,.int .i64 p_.2],.int .i64 n_]) kr ?_
 intro Z a hS hO hM
 refine rM T hS ⟨[(1,I n_),(2,Pt 3 0)],[(3,(131,[I p_.1,I p_.2]))]⟩ fun Z a oX pE hS hE hr=>?_
 replace hO:=hO.m2 hE
 clear hE hr
 refine rP T hS ⟨[(4,B (((decide ((if p_.2 < p_.1 then p_.2 else p_.1)≥0)) && (decide ((if p_.2 > p_.1 then p_.2 else p_.1) < n_))) && (p_.1 != p_.2)))],[]⟩ (sp:=[11,20]) fun a hS=>?_
 refine ba ?_
 exact fin T hS hO (fun c=>c) rfl (r:=[.bool (((decide ((if p_.2 < p_.1 then p_.2 else p_.1)≥0)) && (decide ((if p_.2 > p_.1 then p_.2 else p_.1) < n_))) && (p_.1 != p_.2))]) kr (fun X' hM hC=>⟨(((decide ((if p_.2 < p_.1 then p_.2 else p_.1)≥0)) && (decide ((if p_.2 > p_.1 then p_.2 else p_.1) < n_))) && (p_.1 != p_.2)),hm,rfl⟩)
theorem C76 (v:∀ (p_:Int × Int) (n_:Int),VC76 p_ n_ (fun r=>r=dT p_ n_)):S76:=by
 intro w X p_ n_    
 refine (W76 w X p_ n_    _ (v p_ n_)).mono ?_
 rintro _ _ _ _ ⟨r,rfl,h⟩
 exact h
theorem W75 (Lh:S76) (Gq:S77) (w0) (X0) (p_:Int × Int) (aq:Int) (ax:Int) (aP:List Int) (a1) (c1) (b1) (i1) (b2) (i2) (b3) (i3) (Q:Bool->Prop) (hm:VC75 p_ aq ax aP Q) (h1:RS tI w0 X0 a1 aP c1) (fF:Cell w0 X0 b1 i1 3 [.int .i64 aq]) (g8:Cell w0 X0 b2 i2 3 [.int .i64 ax]) (lT:Cell w0 X0 b3 i3 43 [.slice a1 aP.length c1]) (hA:dS [i1,i2,i3]) :
  Ret Tryz.prog 75 #[.agg #[.int .i64 p_.1,.int .i64 p_.2],.pointer (some ⟨b1,0,none⟩),.pointer (some ⟨b2,0,none⟩),.pointer (some ⟨b3,0,none⟩)] (pR [i1,i2,i3]) w0 X0 (fun w X' v=>∃ r,Q r/\v=.bool r/\Cell w X' b1 i1 3 [.int .i64 aq]/\Cell w X' b2 i2 3 [.int .i64 ax]/\Cell w X' b3 i3 43 [.slice a1 aP.length c1]):=by
 unfold VC75 at hm
 replace hm:=hm (h1.sm kr)
 refine fT Tryz.func75 rfl (dH (zAe0 i1 i2 i3)) (fun id=>(bif Nat.beq id 901 then b1 else (bif Nat.beq id 902 then b2 else (bif Nat.beq id 903 then b3 else 0)))) (args:=[V (.agg #[.int .i64 p_.1,.int .i64 p_.2]),Pt 901 0,Pt 902 0,Pt 903 0]) (bxs:=[(901,(3,[I aq])),(902,(3,[I ax])),(903,(43,[Sl a1 aP c1]))]) kr rfl (bq.cons kr (fF.map (bQ 0 hA.1 rfl)) (bq.cons kr (g8.map (bQ 1 hA.1 rfl)) (bq.cons kr (lT.map (bQ 2 hA.1 rfl)) bq.nil))) (fJ (fun q hq=>(hA.2 q.1 (List.mem_map.2 ⟨q,hq,rfl⟩)).1)) ?_
 intro a hS hO hM
 have hP:Pin [(901,b1),(902,b2),(903,b3)] (fun id=>(bif Nat.beq id 901 then b1 else (bif Nat.beq id 902 then b2 else (bif Nat.beq id 903 then b3 else 0)))):=by intro q hq; simp at hq; rcases hq with rfl | rfl | rfl <;> rfl
 generalize (fun id=>(bif Nat.beq id 901 then b1 else (bif Nat.beq id 902 then b2 else (bif Nat.beq id 903 then b3 else 0))))=Z at hS hP
 clear fF g8 lT
 replace h1:=h1.m0 hM
 refine rM T hS ⟨[(1,Pt 901 0),(2,Pt 902 0),(3,Pt 903 0),(4,Pt 5 0)],[(5,(131,[I p_.1,I p_.2])),(901,(3,[I aq])),(902,(3,[I ax])),(903,(43,[Sl a1 aP c1]))]⟩ fun Z a qm sf hS hE hr=>?_
 replace hO:=hO.m2 hE
 replace h1:=h1.m1 hE
 replace hP:=hP.mv hr kr
 clear hE hr
 refine br ?_
 refine oPe T hS 2 [1] [(6,V (.agg #[.int .i64 p_.1,.int .i64 p_.2])),(7,I aq)] fun a hS=>?_
 refine op1 (call hS kr kr hb76 kr (fun _ _=>rfl) (Lh _ _ (p_.1,p_.2) aq) ?_)
 intro v101 a fH fK hE hp hS
 replace hO:=hO.m2 hE
 replace h1:=h1.m1 hE
 obtain ⟨ay,hr⟩:∃ r,dT (p_.1,p_.2) aq=r:=⟨_,rfl⟩
 replace hm:=hm ay hr
 rw [hr] at hp
 clear hr
 subst hp
 refine oPe T hS 7 [2,6,7,8] [(15,B (ay && (p_.2 == ax)))] (sp:=[9]) fun a hS=>?_
 rcases bft (ay && (p_.2 == ax)) with hb | hb
 ·replace hS:=hS.lit (t:=15) kr hb
  replace hm:=hm.1 hb
  refine oP T hS 3 ⟨[(15,B true),(16,Sl a1 aP c1),(18,I p_.1)],[(901,(3,[I aq])),(902,(3,[I ax])),(903,(43,[Sl a1 aP c1]))]⟩ fun a hS=>?_
  refine op1 (call hS kr kr hb77 kr (fun _ _=>rfl) (Gq _ _ aP p_.1 a1 c1 h1) ?_)
  intro v105 a n6 n2 hE hp hS
  replace hO:=hO.m2 hE
  replace h1:=h1.m1 hE
  obtain ⟨bb,hr⟩:∃ r,cw aP p_.1=r:=⟨_,rfl⟩
  replace hm:=hm bb hr
  rw [hr] at hp
  clear hr
  subst hp
  refine ePe T hS [15,16,18,19] [(5,B (!bb))] fun a hS=>?_
  refine ba ?_
  exact g9 T hS hO (fun c h=>bZ kr h) (fun c h=>b0 (l:=(zAe0 i1 i2 i3)) h) (bT (zAe0 i1 i2 i3)) rfl (r:=[.bool (!bb)]) kr (fun X' hM hC=>⟨(!bb),hm,rfl,((hS.cell (id:=901) (t:=3) (cs:=[I aq]) kr).out (f:=(bT (zAe0 i1 i2 i3))) hC kr kr (hP.at 0 rfl)),((hS.cell (id:=902) (t:=3) (cs:=[I ax]) kr).out (f:=(bT (zAe0 i1 i2 i3))) hC kr kr (hP.at 1 rfl)),((hS.cell (id:=903) (t:=43) (cs:=[Sl a1 aP c1]) kr).out (f:=(bT (zAe0 i1 i2 i3))) hC kr kr (hP.at 2 rfl))⟩)
 replace hS:=hS.lit (t:=15) kr hb
 replace hm:=hm.2 hb
 refine eP T hS ⟨[(5,B false)],[(901,(3,[I aq])),(902,(3,[I ax])),(903,(43,[Sl a1 aP c1]))]⟩ fun a hS=>?_
 refine ba ?_
 exact g9 T hS hO (fun c h=>bZ kr h) (fun c h=>b0 (l:=(zAe0 i1 i2 i3)) h) (bT (zAe0 i1 i2 i3)) rfl (r:=[.bool false]) kr (fun X' hM hC=>⟨false,hm,rfl,((hS.cell (id:=901) (t:=3) (cs:=[I aq]) kr).out (f:=(bT (zAe0 i1 i2 i3))) hC kr kr (hP.at 0 rfl)),((hS.cell (id:=902) (t:=3) (cs:=[I ax]) kr).out (f:=(bT (zAe0 i1 i2 i3))) hC kr kr (hP.at 1 rfl)),((hS.cell (id:=903) (t:=43) (cs:=[Sl a1 aP c1]) kr).out (f:=(bT (zAe0 i1 i2 i3))) hC kr kr (hP.at 2 rfl))⟩)
theorem C75 (Lh:S76) (Gq:S77) (v:∀ (p_:Int × Int) (aq:Int) (ax:Int) (aP:List Int),VC75 p_ aq ax aP (fun r=>r=cj p_ aq ax aP)):S75:=by
 intro w X p_ aq ax aP a1 c1  b1 i1 b2 i2 b3 i3 h1 fF g8 lT hA
 refine (W75 Lh Gq w X p_ aq ax aP a1 c1  b1 i1 b2 i2 b3 i3 _ (v p_ aq ax aP) h1 fF g8 lT hA).mono ?_
 rintro _ _ _ _ ⟨r,rfl,h⟩
 exact h
theorem W93_75 (Li:S75) (w0) (X0) (s_:List (Int × Int)) (aq:Int) (ax:Int) (aP:List Int) (a1) (c1) (a2) (c2) (b1) (i1) (b2) (i2) (b3) (i3) (Q:Int->Prop) (hm:VC93_75 s_ aq ax aP Q) (h1:RS tP2 w0 X0 a1 s_ c1) (h2:RS tI w0 X0 a2 aP c2) (fF:Cell w0 X0 b1 i1 3 [.int .i64 aq]) (g8:Cell w0 X0 b2 i2 3 [.int .i64 ax]) (lT:Cell w0 X0 b3 i3 43 [.slice a2 aP.length c2]) (hA:dS [i1,i2,i3]) :
  Ret Tryz.prog 93 #[.slice a1 s_.length c1,.func (.func 75) #[] #[.pointer (some ⟨b1,0,none⟩),.pointer (some ⟨b2,0,none⟩),.pointer (some ⟨b3,0,none⟩)]] (pR [i1,i2,i3]) w0 X0 (fun w X' v=>∃ r,Q r/\v=.int .i64 r/\Cell w X' b1 i1 3 [.int .i64 aq]/\Cell w X' b2 i2 3 [.int .i64 ax]/\Cell w X' b3 i3 43 [.slice a2 aP.length c2]):=by
 unfold VC93_75 at hm
 replace hm:=hm (h1.sm kr)
 replace hm:=hm (h2.sm kr)
 refine fT Tryz.func93 rfl (dH (zAe0 i1 i2 i3)) (fun id=>(bif Nat.beq id 901 then b1 else (bif Nat.beq id 902 then b2 else (bif Nat.beq id 903 then b3 else 0)))) (args:=[Sl a1 s_ c1,.f (.func 75) [] [.p 901 0,.p 902 0,.p 903 0]]) (bxs:=[(901,(3,[I aq])),(902,(3,[I ax])),(903,(43,[Sl a2 aP c2]))]) kr rfl (bq.cons kr (fF.map (bQ 0 hA.1 rfl)) (bq.cons kr (g8.map (bQ 1 hA.1 rfl)) (bq.cons kr (lT.map (bQ 2 hA.1 rfl)) bq.nil))) (fJ (fun q hq=>(hA.2 q.1 (List.mem_map.2 ⟨q,hq,rfl⟩)).1)) ?_
 intro a hS hO hM
 have hP:Pin [(901,b1),(902,b2),(903,b3)] (fun id=>(bif Nat.beq id 901 then b1 else (bif Nat.beq id 902 then b2 else (bif Nat.beq id 903 then b3 else 0)))):=by intro q hq; simp at hq; rcases hq with rfl | rfl | rfl <;> rfl
 generalize (fun id=>(bif Nat.beq id 901 then b1 else (bif Nat.beq id 902 then b2 else (bif Nat.beq id 903 then b3 else 0))))=Z at hS hP
 clear fF g8 lT
 replace h1:=h1.m0 hM
 replace h2:=h2.m0 hM
 refine rPe T hS [] [] fun a hS=>?_
 refine cb (fun a w=>∃ Z X,VC93_75_J1 Q/\St Tryz.f93.ntmps ⟨[],[(901,(3,[I aq])),(902,(3,[I ax])),(903,(43,[Sl a2 aP c2]))]⟩ Z a w X/\gq (dH (zAe0 i1 i2 i3)) w0 X0 w X/\Pin [(901,b1),(902,b2),(903,b3)] Z/\RS tI w X a2 aP c2) ?_ ?_
 ·refine rPe T hS [] [(7,I (lN s_)),(8,I 0)] fun a hS=>?_
  refine aQ ?_
  obtain ⟨I1,μ1,cJ,hm⟩:=hm
  refine cH (σ:=Int) (fun s a w=>∃ Z X,I1 s/\St Tryz.f93.ntmps ⟨[(0,Sl a1 s_ c1),(1,.f (.func 75) [] [.p 901 0,.p 902 0,.p 903 0]),(7,I (lN s_)),(8,I s)],[(901,(3,[I aq])),(902,(3,[I ax])),(903,(43,[Sl a2 aP c2]))]⟩ Z a w X/\gq (dH (zAe0 i1 i2 i3)) w0 X0 w X/\Pin [(901,b1),(902,b2),(903,b3)] Z/\RS tP2 w X a1 s_ c1/\RS tI w X a2 aP c2) (fun s=>μ1 s) (0) ?_ ?_
  ·exact ⟨Z,_,cJ,hS.sl _,hO,hP,h1,h2⟩
  rintro bj a uY ⟨Z,ER,hI,hS,hO,hP,h102,h104⟩
  replace hm:=hm bj hI
  clear hI cJ
  refine rPe T hS [] [(9,B (decide (bj < (lN s_))))] fun a hS=>?_
  refine bh ?_
  refine aI hS (b:=decide (bj < (lN s_))) kr (fun hb=>?_) fun hb=>?_
  ·replace hm:=hm.1 hb
   refine aO (bh ?_)
   refine aQ ?_
   refine rPe T hS [9] [(5,I bj)] fun a hS=>?_
   refine br ?_
   refine oPe T hS 3 [] [(11,.f (.func 75) [] [.p 901 0,.p 902 0,.p 903 0]),(12,Sl a1 s_ c1),(13,I bj)] fun a hS=>?_
   obtain ⟨hq,hm⟩:=hm
   refine op1 (index (e:=131) (k:=.i64) T hS kr kr kr kr h102 kr kr hq.1 hq.2 ?_)
   intro yx a h106 hS
   refine op1 (eS T hS kr kr kr h106 kr kr ?_)
   intro v107 a hv hS
   subst hv
   refine op1 (ko (fi:=[]) (cp:=[.p 901 0,.p 902 0,.p 903 0]) hS kr kr hb75 kr kr (Li _ _ (gi s_ bj) aq ax aP a2 c2 (Z 901) 901 (Z 902) 902 (Z 903) 903 h104 (hS.cell (id:=901) (t:=3) (cs:=[I aq]) kr) (hS.cell (id:=902) (t:=3) (cs:=[I ax]) kr) (hS.cell (id:=903) (t:=43) (cs:=[Sl a2 aP c2]) kr) ⟨by decide,by decide⟩) ?_)
   intro v108 a qm sf hE hp hS
   replace hO:=hO.m2 hE
   replace h102:=h102.m1 hE
   replace h104:=h104.m1 hE
   replace h106:=h106.m1 hE
   obtain ⟨hp,Fy,Fx,Fw⟩:=hp
   obtain ⟨bG,hr⟩:∃ r,cj (gi s_ bj) aq ax aP=r:=⟨_,rfl⟩
   replace hm:=hm bG hr
   rw [hr] at hp
   clear hr
   subst hp
   replace hS:=hS.cI (id:=901) (t:=3) (cs:=[I aq]) kr Fy
   replace hS:=hS.cI (id:=902) (t:=3) (cs:=[I ax]) kr Fx
   replace hS:=hS.cI (id:=903) (t:=43) (cs:=[Sl a2 aP c2]) kr Fw
   clear Fy Fx Fw
   refine iy ?_
   refine aI hS (b:=bG) kr (fun hb=>?_) fun hb=>?_
   ·replace hm:=hm.1 hb
    refine rPe T hS [0,1,5,7,8,16] [(4,I bj)] fun a hS=>?_
    refine ba ?_
    exact g9 T hS hO (fun c h=>bZ kr h) (fun c h=>b0 (l:=(zAe0 i1 i2 i3)) h) (bT (zAe0 i1 i2 i3)) rfl (r:=[.int .i64 bj]) kr (fun X' hM hC=>⟨bj,hm,rfl,((hS.cell (id:=901) (t:=3) (cs:=[I aq]) kr).out (f:=(bT (zAe0 i1 i2 i3))) hC kr kr (hP.at 0 rfl)),((hS.cell (id:=902) (t:=3) (cs:=[I ax]) kr).out (f:=(bT (zAe0 i1 i2 i3))) hC kr kr (hP.at 1 rfl)),((hS.cell (id:=903) (t:=43) (cs:=[Sl a2 aP c2]) kr).out (f:=(bT (zAe0 i1 i2 i3))) hC kr kr (hP.at 2 rfl))⟩)
   replace hm:=hm.2 hb
   refine aO ?_
   refine region (ePe T hS [5,16] [(8,I (wR (bj+1)))] fun a hS=>?_)
   exact ⟨wR (bj+1),⟨Z,_,hm.1,hS.sl _,hO,hP,h102,h104⟩,hm.2⟩
  replace hm:=hm.2 hb
  refine cu (by rfl) ?_
  exact ⟨Z,_,hm,hS.sl _,hO,hP,h104⟩
 rintro a z5 ⟨Z,yq,hm,hS,hO,hP,h101⟩
 unfold VC93_75_J1 at hm
 refine rPe T hS [] [(4,I (-1))] fun a hS=>?_
 refine ba ?_
 exact g9 T hS hO (fun c h=>bZ kr h) (fun c h=>b0 (l:=(zAe0 i1 i2 i3)) h) (bT (zAe0 i1 i2 i3)) rfl (r:=[.int .i64 (-1)]) kr (fun X' hM hC=>⟨(-1),hm,rfl,((hS.cell (id:=901) (t:=3) (cs:=[I aq]) kr).out (f:=(bT (zAe0 i1 i2 i3))) hC kr kr (hP.at 0 rfl)),((hS.cell (id:=902) (t:=3) (cs:=[I ax]) kr).out (f:=(bT (zAe0 i1 i2 i3))) hC kr kr (hP.at 1 rfl)),((hS.cell (id:=903) (t:=43) (cs:=[Sl a2 aP c2]) kr).out (f:=(bT (zAe0 i1 i2 i3))) hC kr kr (hP.at 2 rfl))⟩)
theorem C93_75 (Li:S75) (v:∀ (s_:List (Int × Int)) (aq:Int) (ax:Int) (aP:List Int),VC93_75 s_ aq ax aP (fun r=>r=bp s_ aq ax aP)):S93_75:=by
 intro w X s_ aq ax aP a1 c1 a2 c2  b1 i1 b2 i2 b3 i3 h1 h2 fF g8 lT hA
 refine (W93_75 Li w X s_ aq ax aP a1 c1 a2 c2  b1 i1 b2 i2 b3 i3 _ (v s_ aq ax aP) h1 h2 fF g8 lT hA).mono ?_
 rintro _ _ _ _ ⟨r,rfl,h⟩
 exact h
theorem W78_75 (xR:S93_75) (w0) (X0) (s_:List (Int × Int)) (aq:Int) (ax:Int) (aP:List Int) (a1) (c1) (a2) (c2) (b1) (i1) (b2) (i2) (b3) (i3) (Q:Bool->Prop) (hm:VC78_75 s_ aq ax aP Q) (h1:RS tP2 w0 X0 a1 s_ c1) (h2:RS tI w0 X0 a2 aP c2) (fF:Cell w0 X0 b1 i1 3 [.int .i64 aq]) (g8:Cell w0 X0 b2 i2 3 [.int .i64 ax]) (lT:Cell w0 X0 b3 i3 43 [.slice a2 aP.length c2]) (hA:dS [i1,i2,i3]) :
  Ret Tryz.prog 78 #[.slice a1 s_.length c1,.func (.func 75) #[] #[.pointer (some ⟨b1,0,none⟩),.pointer (some ⟨b2,0,none⟩),.pointer (some ⟨b3,0,none⟩)]] (pR [i1,i2,i3]) w0 X0 (fun w X' v=>∃ r,Q r/\v=.bool r/\Cell w X' b1 i1 3 [.int .i64 aq]/\Cell w X' b2 i2 3 [.int .i64 ax]/\Cell w X' b3 i3 43 [.slice a2 aP.length c2]):=by
 unfold VC78_75 at hm
 replace hm:=hm (h1.sm kr)
 replace hm:=hm (h2.sm kr)
 refine fT Tryz.func78 rfl (dH (zAe0 i1 i2 i3)) (fun id=>(bif Nat.beq id 901 then b1 else (bif Nat.beq id 902 then b2 else (bif Nat.beq id 903 then b3 else 0)))) (args:=[Sl a1 s_ c1,.f (.func 75) [] [.p 901 0,.p 902 0,.p 903 0]]) (bxs:=[(901,(3,[I aq])),(902,(3,[I ax])),(903,(43,[Sl a2 aP c2]))]) kr rfl (bq.cons kr (fF.map (bQ 0 hA.1 rfl)) (bq.cons kr (g8.map (bQ 1 hA.1 rfl)) (bq.cons kr (lT.map (bQ 2 hA.1 rfl)) bq.nil))) (fJ (fun q hq=>(hA.2 q.1 (List.mem_map.2 ⟨q,hq,rfl⟩)).1)) ?_
 intro a hS hO hM
 have hP:Pin [(901,b1),(902,b2),(903,b3)] (fun id=>(bif Nat.beq id 901 then b1 else (bif Nat.beq id 902 then b2 else (bif Nat.beq id 903 then b3 else 0)))):=by intro q hq; simp at hq; rcases hq with rfl | rfl | rfl <;> rfl
 generalize (fun id=>(bif Nat.beq id 901 then b1 else (bif Nat.beq id 902 then b2 else (bif Nat.beq id 903 then b3 else 0))))=Z at hS hP
 clear fF g8 lT
 replace h1:=h1.m0 hM
 replace h2:=h2.m0 hM
 refine rPe T hS [] [] fun a hS=>?_
 refine br ?_
 refine oPe T hS 2 [0,1] [(5,Sl a1 s_ c1),(6,.f (.func 75) [] [.p 901 0,.p 902 0,.p 903 0])] fun a hS=>?_
 refine op1 (l9 hS kr kr hb93 kr (xR _ _ s_ aq ax aP a1 c1 a2 c2 (Z 901) 901 (Z 902) 902 (Z 903) 903 h1 h2 (hS.cell (id:=901) (t:=3) (cs:=[I aq]) kr) (hS.cell (id:=902) (t:=3) (cs:=[I ax]) kr) (hS.cell (id:=903) (t:=43) (cs:=[Sl a2 aP c2]) kr) ⟨by decide,by decide⟩) ?_)
 intro v101 a fH fK hE hp hS
 replace hO:=hO.m2 hE
 replace h1:=h1.m1 hE
 replace h2:=h2.m1 hE
 obtain ⟨hp,vS,vR,rm⟩:=hp
 obtain ⟨ay,hr⟩:∃ r,bp s_ aq ax aP=r:=⟨_,rfl⟩
 replace hm:=hm ay hr
 rw [hr] at hp
 clear hr
 subst hp
 replace hS:=hS.cI (id:=901) (t:=3) (cs:=[I aq]) kr vS
 replace hS:=hS.cI (id:=902) (t:=3) (cs:=[I ax]) kr vR
 replace hS:=hS.cI (id:=903) (t:=43) (cs:=[Sl a2 aP c2]) kr rm
 clear vS vR rm
 refine ePe T hS [5,6,7] [(4,B (decide (ay≥0)))] fun a hS=>?_
 refine ba ?_
 exact g9 T hS hO (fun c h=>bZ kr h) (fun c h=>b0 (l:=(zAe0 i1 i2 i3)) h) (bT (zAe0 i1 i2 i3)) rfl (r:=[.bool (decide (ay≥0))]) kr (fun X' hM hC=>⟨(decide (ay≥0)),hm,rfl,((hS.cell (id:=901) (t:=3) (cs:=[I aq]) kr).out (f:=(bT (zAe0 i1 i2 i3))) hC kr kr (hP.at 0 rfl)),((hS.cell (id:=902) (t:=3) (cs:=[I ax]) kr).out (f:=(bT (zAe0 i1 i2 i3))) hC kr kr (hP.at 1 rfl)),((hS.cell (id:=903) (t:=43) (cs:=[Sl a2 aP c2]) kr).out (f:=(bT (zAe0 i1 i2 i3))) hC kr kr (hP.at 2 rfl))⟩)
theorem C78_75 (xR:S93_75) (v:∀ (s_:List (Int × Int)) (aq:Int) (ax:Int) (aP:List Int),VC78_75 s_ aq ax aP (fun r=>r=bI s_ aq ax aP)):S78_75:=by
 intro w X s_ aq ax aP a1 c1 a2 c2  b1 i1 b2 i2 b3 i3 h1 h2 fF g8 lT hA
 refine (W78_75 xR w X s_ aq ax aP a1 c1 a2 c2  b1 i1 b2 i2 b3 i3 _ (v s_ aq ax aP) h1 h2 fF g8 lT hA).mono ?_
 rintro _ _ _ _ ⟨r,rfl,h⟩
 exact h
theorem W74 (Gq:S77) (xT:S78_75) (w0) (X0) (x_:Int) (aq:Int) (ax:List Int) (aP:List (Int × Int)) (a1) (c1) (a2) (c2) (b1) (i1) (b2) (i2) (b3) (i3) (Q:Bool->Prop) (hm:VC74 x_ aq ax aP Q) (h1:RS tI w0 X0 a1 ax c1) (h2:RS tP2 w0 X0 a2 aP c2) (fF:Cell w0 X0 b1 i1 3 [.int .i64 aq]) (g8:Cell w0 X0 b2 i2 43 [.slice a1 ax.length c1]) (lT:Cell w0 X0 b3 i3 95 [.slice a2 aP.length c2]) (hA:dS [i1,i2,i3]) :
  Ret Tryz.prog 74 #[.int .i64 x_,.pointer (some ⟨b1,0,none⟩),.pointer (some ⟨b2,0,none⟩),.pointer (some ⟨b3,0,none⟩)] (pR [i1,i2,i3]) w0 X0 (fun w X' v=>∃ r,Q r/\v=.bool r/\Cell w X' b1 i1 3 [.int .i64 aq]/\Cell w X' b2 i2 43 [.slice a1 ax.length c1]/\Cell w X' b3 i3 95 [.slice a2 aP.length c2]):=by
 unfold VC74 at hm
 replace hm:=hm (h1.sm kr)
 replace hm:=hm (h2.sm kr)
 refine fT Tryz.func74 rfl (dH (zAe0 i1 i2 i3)) (fun id=>(bif Nat.beq id 901 then b1 else (bif Nat.beq id 902 then b2 else (bif Nat.beq id 903 then b3 else 0)))) (args:=[I x_,Pt 901 0,Pt 902 0,Pt 903 0]) (bxs:=[(901,(3,[I aq])),(902,(43,[Sl a1 ax c1])),(903,(95,[Sl a2 aP c2]))]) kr rfl (bq.cons kr (fF.map (bQ 0 hA.1 rfl)) (bq.cons kr (g8.map (bQ 1 hA.1 rfl)) (bq.cons kr (lT.map (bQ 2 hA.1 rfl)) bq.nil))) (fJ (fun q hq=>(hA.2 q.1 (List.mem_map.2 ⟨q,hq,rfl⟩)).1)) ?_
 intro a hS hO hM
 have hP:Pin [(901,b1),(902,b2),(903,b3)] (fun id=>(bif Nat.beq id 901 then b1 else (bif Nat.beq id 902 then b2 else (bif Nat.beq id 903 then b3 else 0)))):=by intro q hq; simp at hq; rcases hq with rfl | rfl | rfl <;> rfl
 generalize (fun id=>(bif Nat.beq id 901 then b1 else (bif Nat.beq id 902 then b2 else (bif Nat.beq id 903 then b3 else 0))))=Z at hS hP
 clear fF g8 lT
 replace h1:=h1.m0 hM
 replace h2:=h2.m0 hM
 refine rM T hS ⟨[(1,Pt 901 0),(2,Pt 902 0),(3,Pt 903 0),(4,Pt 5 0)],[(5,(3,[I x_])),(901,(3,[I aq])),(902,(43,[Sl a1 ax c1])),(903,(95,[Sl a2 aP c2]))]⟩ fun Z a Bt wT hS hE hr=>?_
 replace hO:=hO.m2 hE
 replace h1:=h1.m1 hE
 replace h2:=h2.m1 hE
 replace hP:=hP.mv hr kr
 clear hE hr
 refine rPe T hS [1] [(6,.f (.func 75) [] [.p 901 0,.p 5 0,.p 902 0])] fun a hS=>?_
 refine br ?_
 refine oPe T hS 2 [2,4] [(8,Sl a1 ax c1),(9,I x_)] fun a hS=>?_
 refine op1 (call hS kr kr hb77 kr (fun _ _=>rfl) (Gq _ _ ax x_ a1 c1 h1) ?_)
 intro v101 a fH fK hE hp hS
 replace hO:=hO.m2 hE
 replace h1:=h1.m1 hE
 replace h2:=h2.m1 hE
 obtain ⟨ay,hr⟩:∃ r,cw ax x_=r:=⟨_,rfl⟩
 replace hm:=hm ay hr
 rw [hr] at hp
 clear hr
 subst hp
 refine oPe T hS 1 [8,9,10] [(11,B ay)] fun a hS=>?_
 rcases bft ay with hb | hb
 ·replace hS:=hS.lit (t:=11) kr hb
  replace hm:=hm.1 hb
  refine eP T hS ⟨[(5,B true)],[(901,(3,[I aq])),(902,(43,[Sl a1 ax c1])),(903,(95,[Sl a2 aP c2]))]⟩ fun a hS=>?_
  refine ba ?_
  exact g9 T hS hO (fun c h=>bZ kr h) (fun c h=>b0 (l:=(zAe0 i1 i2 i3)) h) (bT (zAe0 i1 i2 i3)) rfl (r:=[.bool true]) kr (fun X' hM hC=>⟨true,hm,rfl,((hS.cell (id:=901) (t:=3) (cs:=[I aq]) kr).out (f:=(bT (zAe0 i1 i2 i3))) hC kr kr (hP.at 0 rfl)),((hS.cell (id:=902) (t:=43) (cs:=[Sl a1 ax c1]) kr).out (f:=(bT (zAe0 i1 i2 i3))) hC kr kr (hP.at 1 rfl)),((hS.cell (id:=903) (t:=95) (cs:=[Sl a2 aP c2]) kr).out (f:=(bT (zAe0 i1 i2 i3))) hC kr kr (hP.at 2 rfl))⟩)
 replace hS:=hS.lit (t:=11) kr hb
 replace hm:=hm.2 hb
 refine oPe T hS 2 [3,6] [(12,Sl a2 aP c2),(13,.f (.func 75) [] [.p 901 0,.p 5 0,.p 902 0])] fun a hS=>?_
 refine op1 (l9 hS kr kr hb78 kr (xT _ _ aP aq x_ ax a2 c2 a1 c1 (Z 901) 901 (Z 5) 5 (Z 902) 902 h2 h1 (hS.cell (id:=901) (t:=3) (cs:=[I aq]) kr) (hS.cell (id:=5) (t:=3) (cs:=[I x_]) kr) (hS.cell (id:=902) (t:=43) (cs:=[Sl a1 ax c1]) kr) ⟨by decide,by decide⟩) ?_)
 intro v105 a n6 n2 hE hp hS
 replace hO:=hO.m2 hE
 replace h1:=h1.m1 hE
 replace h2:=h2.m1 hE
 obtain ⟨hp,Fz,vQ,vP⟩:=hp
 obtain ⟨bb,hr⟩:∃ r,bI aP aq x_ ax=r:=⟨_,rfl⟩
 replace hm:=hm bb hr
 rw [hr] at hp
 clear hr
 subst hp
 replace hS:=hS.cI (id:=901) (t:=3) (cs:=[I aq]) kr Fz
 replace hS:=hS.cI (id:=5) (t:=3) (cs:=[I x_]) kr vQ
 replace hS:=hS.cI (id:=902) (t:=43) (cs:=[Sl a1 ax c1]) kr vP
 clear Fz vQ vP
 refine eP T hS ⟨[(5,B bb)],[(901,(3,[I aq])),(902,(43,[Sl a1 ax c1])),(903,(95,[Sl a2 aP c2]))]⟩ fun a hS=>?_
 refine ba ?_
 exact g9 T hS hO (fun c h=>bZ kr h) (fun c h=>b0 (l:=(zAe0 i1 i2 i3)) h) (bT (zAe0 i1 i2 i3)) rfl (r:=[.bool bb]) kr (fun X' hM hC=>⟨bb,hm,rfl,((hS.cell (id:=901) (t:=3) (cs:=[I aq]) kr).out (f:=(bT (zAe0 i1 i2 i3))) hC kr kr (hP.at 0 rfl)),((hS.cell (id:=902) (t:=43) (cs:=[Sl a1 ax c1]) kr).out (f:=(bT (zAe0 i1 i2 i3))) hC kr kr (hP.at 1 rfl)),((hS.cell (id:=903) (t:=95) (cs:=[Sl a2 aP c2]) kr).out (f:=(bT (zAe0 i1 i2 i3))) hC kr kr (hP.at 2 rfl))⟩)
theorem C74 (Gq:S77) (xT:S78_75) (v:∀ (x_:Int) (aq:Int) (ax:List Int) (aP:List (Int × Int)),VC74 x_ aq ax aP (fun r=>r=db x_ aq ax aP)):S74:=by
 intro w X x_ aq ax aP a1 c1 a2 c2  b1 i1 b2 i2 b3 i3 h1 h2 fF g8 lT hA
 refine (W74 Gq xT w X x_ aq ax aP a1 c1 a2 c2  b1 i1 b2 i2 b3 i3 _ (v x_ aq ax aP) h1 h2 fF g8 lT hA).mono ?_
 rintro _ _ _ _ ⟨r,rfl,h⟩
 exact h
theorem W44 (Lj:S74) (w0) (X0) (n_:Int) (pairs:List (Int × Int)) (a1) (c1) (Q:(List Int) × Bool->Prop) (hm:VC44 n_ pairs Q) (h1:RS tP2 w0 X0 a1 pairs c1) :
  Ret Tryz.prog 44 #[.int .i64 n_,.slice a1 pairs.length c1] aM w0 X0 (fun w X' v=>∃ r,Q r/\∃ cQ cN,v=.tuple #[.slice cQ r.1.length cN,.bool r.2]/\RS tI w X' cQ r.1 cN):=by
 unfold VC44 at hm
 replace hm:=hm (h1.sm kr)
 refine enter Tryz.func44 rfl (vals:=[.int .i64 n_,.slice a1 pairs.length c1]) kr ?_
 intro Z a hS hO hM
 replace h1:=h1.m0 hM
 refine rM T hS ⟨[(2,Pt 3 0),(3,Pt 4 0)],[(3,(3,[I n_])),(4,(95,[Sl a1 pairs c1]))]⟩ fun Z a HW Rr hS hE hr=>?_
 replace hO:=hO.m2 hE
 replace h1:=h1.m1 hE
 clear hE hr
 refine bh ?_
 refine rPe T hS [] [(14,B ((decide (n_ < 0)) || (decide (n_ > 64))))] (sp:=[11]) fun a hS=>?_
 refine aI hS (b:=((decide (n_ < 0)) || (decide (n_ > 64)))) kr (fun hb=>?_) fun hb=>?_
 ·replace hm:=hm.1 hb
  refine rP T hS ⟨[(4,V (.slice none 0 0)),(5,B false)],[]⟩ fun a hS=>?_
  refine ba ?_
  exact fin T hS hO (fun c=>c) rfl (r:=[.slice none 0 0,.bool false]) kr (fun X' hM hC=>⟨([],false),hm,none,0,rfl,RS.empty _ _ _⟩)
 replace hm:=hm.2 hb
 refine aO ?_
 refine br ?_
 refine oPe T hS 1 [14] [(15,I n_)] fun a hS=>?_
 obtain ⟨hq,hm⟩:=hm
 refine op1 (make (E:=3) (kl:=.i64) (kc:=.i64) (col:=1005) (T:=tI) T 0 hS kr kr kr kr kr kr hq.1 hq.2.1 (by have:=hq.2.2; have e_:((tI.bytes:Nat):Int)=8:=rfl; rw [e_]; omega) (by have:=hq.2.2; omega) (fun _ _=>rfl) ?_)
 intro b101 a fH fK hE h104 hN hS
 clear hq hN
 replace hO:=hO.m2 hE
 replace h1:=h1.m1 hE
 replace hS:=hS.conv (t:=16) (y:=.slice (some ⟨b101,0,none⟩) (List.replicate (0:Int).toNat (0:Int)).length n_.toNat) kr (by rw [List.length_replicate])
 refine eM T hS ⟨[(2,Pt 3 0),(3,Pt 4 0),(6,Pt 7 0)],[(3,(3,[I n_])),(4,(95,[Sl a1 pairs c1])),(7,(43,[V (.slice (some ⟨b101,0,none⟩) (List.replicate (0:Int).toNat (0:Int)).length n_.toNat)]))]⟩ fun Z a DH JZ hS hE hr=>?_
 replace hO:=hO.m2 hE
 replace h1:=h1.m1 hE
 replace h104:=h104.m2 hE
 clear hE hr
 refine rPe T hS [3] [(7,.f (.func 74) [] [.p 3 0,.p 7 0,.p 4 0])] fun a hS=>?_
 refine cb (fun a w=>∃ (Z:Nat->Nat) (X:Nat->Nat) (gZ:List Int) (kP:Option Addr) (kN:Nat),VC44_J1 Q gZ/\St Tryz.f44.ntmps ⟨[(6,Pt 7 0)],[(7,(43,[Sl kP gZ kN]))]⟩ Z a w X/\Old w0 X0 w X/\OS tI 3 w X 1005 kP gZ kN) ?_ ?_
 ·refine aQ ?_
  obtain ⟨I1,μ1,cJ,hm⟩:=hm
  refine cH (σ:=(List Int)) (fun s a w=>∃ Z X jG jE,I1 s/\St Tryz.f44.ntmps ⟨[(2,Pt 3 0),(6,Pt 7 0),(7,.f (.func 74) [] [.p 3 0,.p 7 0,.p 4 0])],[(3,(3,[I n_])),(4,(95,[Sl a1 pairs c1])),(7,(43,[Sl jG s jE]))]⟩ Z a w X/\Old w0 X0 w X/\RS tP2 w X a1 pairs c1/\OS tI 3 w X 1005 jG s jE) (fun s=>μ1 s) (List.replicate (0:Int).toNat (0:Int)) ?_ ?_
  ·exact ⟨Z,_,(some ⟨b101,0,none⟩),n_.toNat,cJ,hS.sl _,hO,h1,h104⟩
  rintro cZ a DI ⟨Z,Db,jG,jE,hI,hS,hO,h111,h115⟩
  replace hm:=hm cZ hI
  clear hI cJ
  refine bh ?_
  refine rPe T hS [] [(21,B (decide ((lN cZ) < n_)))] fun a hS=>?_
  refine aI hS (b:=decide ((lN cZ) < n_)) kr (fun hb=>?_) fun hb=>?_
  ·replace hm:=hm.1 hb
   refine aO ?_
   refine aQ ?_
   refine rPe T hS [21] [(8,I 0)] fun a hS=>?_
   refine cb (fun a w=>∃ (Z:Nat->Nat) (X:Nat->Nat) (a9:Int) (jJ:List Int) (rR:Option Addr) (rH:Nat),VC44_J2 n_ Q I1 μ1 cZ a9 jJ/\St Tryz.f44.ntmps ⟨[(2,Pt 3 0),(6,Pt 7 0),(7,.f (.func 74) [] [.p 3 0,.p 7 0,.p 4 0]),(8,I a9)],[(3,(3,[I n_])),(4,(95,[Sl a1 pairs c1])),(7,(43,[Sl rR jJ rH]))]⟩ Z a w X/\Old w0 X0 w X/\RS tP2 w X a1 pairs c1/\OS tI 3 w X 1005 rR jJ rH) ?_ ?_
   ·refine aQ ?_
    obtain ⟨I2,μ2,cJ,hm⟩:=hm
    refine cH (σ:=Int × (List Int)) (fun s a w=>∃ Z X nZ nV,I2 s.1 s.2/\St Tryz.f44.ntmps ⟨[(2,Pt 3 0),(6,Pt 7 0),(7,.f (.func 74) [] [.p 3 0,.p 7 0,.p 4 0]),(8,I s.1)],[(3,(3,[I n_])),(4,(95,[Sl a1 pairs c1])),(7,(43,[Sl nZ s.2 nV]))]⟩ Z a w X/\Old w0 X0 w X/\RS tP2 w X a1 pairs c1/\OS tI 3 w X 1005 nZ s.2 nV) (fun s=>μ2 s.1 s.2) (⟨0,cZ⟩) ?_ ?_
    ·exact ⟨Z,_,jG,jE,cJ,hS.sl _,hO,h111,h115⟩
    rintro ⟨mV,gv⟩ a DJ ⟨Z,EM,nZ,nV,hI,hS,hO,h134,h138⟩
    replace hm:=hm mV gv hI
    clear hI cJ
    refine bh ?_
    refine cb (fun a w=>∃ (Z:Nat->Nat) (X:Nat->Nat) (jI:Bool) (jw:List Int) (kB:Option Addr) (ku:Nat),VC44_J3 n_ Q I1 μ1 cZ I2 μ2 mV gv jI jw/\St Tryz.f44.ntmps ⟨[(2,Pt 3 0),(6,Pt 7 0),(7,.f (.func 74) [] [.p 3 0,.p 7 0,.p 4 0]),(8,I mV),(29,B jI)],[(3,(3,[I n_])),(4,(95,[Sl a1 pairs c1])),(7,(43,[Sl kB jw ku]))]⟩ Z a w X/\Old w0 X0 w X/\RS tP2 w X a1 pairs c1/\OS tI 3 w X 1005 kB jw ku) ?_ ?_
    ·refine region ?_
     refine oPe T hS 4 [] [(25,B (decide (mV < n_)))] fun a hS=>?_
     rcases bft (decide (mV < n_)) with hb | hb
     ·replace hS:=hS.lit (t:=25) kr hb
      replace hm:=hm.1 hb
      refine oPe T hS 2 [] [(26,.f (.func 74) [] [.p 3 0,.p 7 0,.p 4 0]),(27,I mV)] fun a hS=>?_
      have hb149:=(hS.cell (id:=3) (t:=3) (cs:=[I n_]) kr)
      have hb150:=(hS.cell (id:=7) (t:=43) (cs:=[Sl nZ gv nV]) kr)
      have hb151:=(hS.cell (id:=4) (t:=95) (cs:=[Sl a1 pairs c1]) kr)
      refine op1 (ko (fi:=[]) (cp:=[.p 3 0,.p 7 0,.p 4 0]) hS kr kr hb74 kr kr (Ret.tz kr (Lj _ (eL 1005 _) mV n_ gv pairs nZ nV a1 c1 (Z 3) 3 (Z 7) 7 (Z 4) 4 h138.eL (h134.m0 (M0.eL 1005)) (hb149.eL kr) (hb150.eL kr) (hb151.eL kr) ⟨by decide,by decide⟩)) ?_)
      intro v145 a DM J3 hE hp hS
      replace hO:=hO.m2 hE
      replace h134:=h134.m1 hE
      replace h138:=h138.m2 hE
      obtain ⟨l6,_,hp⟩:=hp
      obtain ⟨hp,zA,zy,zx⟩:=hp
      replace zA:=zA.back hb149 l6
      replace zy:=zy.back hb150 l6
      replace zx:=zx.back hb151 l6
      clear l6 hb149 hb150 hb151
      obtain ⟨Al,hr⟩:∃ r,db mV n_ gv pairs=r:=⟨_,rfl⟩
      replace hm:=hm Al hr
      rw [hr] at hp
      clear hr
      subst hp
      replace hS:=hS.cI (id:=3) (t:=3) (cs:=[I n_]) kr zA
      replace hS:=hS.cI (id:=7) (t:=43) (cs:=[Sl nZ gv nV]) kr zy
      replace hS:=hS.cI (id:=4) (t:=95) (cs:=[Sl a1 pairs c1]) kr zx
      clear zA zy zx
      refine ePe T hS [25,26,27,28] [(29,B Al)] fun a hS=>?_
      exact ⟨Z,_,Al,gv,nZ,nV,hm,hS.sl _,hO,h134,h138⟩
     replace hS:=hS.lit (t:=25) kr hb
     replace hm:=hm.2 hb
     refine ePe T hS [25] [(29,B false)] fun a hS=>?_
     exact ⟨Z,_,false,gv,nZ,nV,hm,hS.sl _,hO,h134,h138⟩
    rintro a HZ ⟨Z,yj,jI,jw,kB,ku,hm,hS,hO,h140,h144⟩
    unfold VC44_J3 at hm
    refine aI hS (b:=jI) kr (fun hb=>?_) fun hb=>?_
    ·replace hm:=hm.1 hb
     refine aO ?_
     refine aQ ?_
     refine region (ePe T hS [29] [(8,I (wR (mV+1)))] fun a hS=>?_)
     exact ⟨⟨wR (mV+1),jw⟩,⟨Z,_,kB,ku,hm.1,hS.sl _,hO,h140,h144⟩,hm.2⟩
    replace hm:=hm.2 hb
    refine cu (by rfl) ?_
    exact ⟨Z,_,mV,jw,kB,ku,hm,hS.sl _,hO,h140,h144⟩
   rintro a Bp ⟨Z,Hl,a9,jJ,rR,rH,hm,hS,hO,h117,h121⟩
   unfold VC44_J2 at hm
   refine bh ?_
   refine rPe T hS [] [(34,B (a9 == n_))] fun a hS=>?_
   refine aI hS (b:=(a9 == n_)) kr (fun hb=>?_) fun hb=>?_
   ·replace hm:=hm.1 hb
    refine rP T hS ⟨[(4,V (.slice none 0 0)),(5,B false)],[]⟩ fun a hS=>?_
    refine ba ?_
    exact fin T hS hO (fun c=>c) rfl (r:=[.slice none 0 0,.bool false]) kr (fun X' hM hC=>⟨([],false),hm,none,0,rfl,RS.empty _ _ _⟩)
   replace hm:=hm.2 hb
   refine aO ?_
   refine region ?_
   refine oPe T hS 2 [8,34] [(35,Sl rR jJ rH),(36,I a9)] fun a hS=>?_
   refine op1 (lit (E:=3) (col:=0) (T:=tI) (vals:=[.int .i64 a9]) (ys:=[a9]) T hS kr kr kr kr (by exact ⟨rfl,trivial⟩) rfl kr kr kr kr ?_)
   intro b122 a F2 yp hE h125 hN hS
   clear hN
   replace hO:=hO.m2 hE
   replace h117:=h117.m1 hE
   replace h121:=h121.m2 hE
   replace h125:=h125.rs0
   obtain ⟨hq,hm⟩:=hm
   obtain ⟨news,hN⟩:=h125.src
   refine op1 (append (E:=3) (T:=tI) (col:=1005) (xs:=jJ) T hS kr kr kr kr h121 hN kr kr kr kr hq ?_)
   intro lY lX a uW rT hE h128 hS
   clear hq hN
   clear h121
   replace hO:=hO.m2 hE
   replace h117:=h117.m1 hE
   replace h125:=h125.m1 hE
   refine eM T hS ⟨[(2,Pt 3 0),(6,Pt 7 0),(7,.f (.func 74) [] [.p 3 0,.p 7 0,.p 4 0])],[(3,(3,[I n_])),(4,(95,[Sl a1 pairs c1])),(7,(43,[Sl lY (jJ++[a9]) lX]))]⟩ fun Z a r7 rS hS hE hr=>?_
   replace hO:=hO.m2 hE
   replace h117:=h117.m1 hE
   replace h128:=h128.m2 hE
   clear hE hr
   exact ⟨jJ++[a9],⟨Z,_,lY,lX,hm.1,hS.sl _,hO,h117,h128⟩,hm.2⟩
  replace hm:=hm.2 hb
  refine cu (by rfl) ?_
  exact ⟨Z,_,cZ,jG,jE,hm,hS.sl _,hO,h115⟩
 rintro a FX ⟨Z,EJ,gZ,kP,kN,hm,hS,hO,h108⟩
 unfold VC44_J1 at hm
 refine rP T hS ⟨[(4,Sl kP gZ kN),(5,B true)],[]⟩ fun a hS=>?_
 refine ba ?_
 obtain ⟨Dh,hE,hF⟩:=h108.freeze (by decide)
 replace hS:=hS.ev hE (c6 kr)
 replace hO:=hO.m2 hE
 have h110:=hF; clear hE hF
 exact fin T hS hO (fun c=>c) rfl (r:=[.slice kP gZ.length kN,.bool true]) kr (fun X' hM hC=>⟨(gZ,true),hm,kP,kN,rfl,h110.m0 hM⟩)
theorem C44 (Lj:S74) (v:∀ (n_:Int) (pairs:List (Int × Int)),VC44 n_ pairs (fun r=>r=di n_ pairs)):S44:=by
 intro w X n_ pairs a1 c1   h1
 refine (W44 Lj w X n_ pairs a1 c1   _ (v n_ pairs) h1).mono ?_
 rintro _ _ _ _ ⟨r,rfl,h⟩
 exact h
theorem W47 (w0) (X0) (h_:ak) (a1) (c1) (a2) (c2) (Q:(List aw)->Prop) (hm:VC47 h_ Q) (h1:RS aC w0 X0 a1 h_.ae c1) (h2:RS aL w0 X0 a2 h_.al c2) :
  Ret Tryz.prog 47 #[.agg #[.slice a1 h_.ae.length c1,.slice a2 h_.al.length c2]] aM w0 X0 (fun w X' v=>∃ r,Q r/\∃ cQ cN,v=.slice cQ r.length cN/\RS aR w X' cQ r cN):=by
 unfold VC47 at hm
 replace hm:=hm (h1.sm kr)
 replace hm:=hm (h2.sm kr)
 refine enter Tryz.func47 rfl (vals:=[.agg #[.slice a1 h_.ae.length c1,.slice a2 h_.al.length c2]]) kr ?_
 intro Z a hS hO hM
 replace h1:=h1.m0 hM
 replace h2:=h2.m0 hM
 refine rM T hS ⟨[(1,Pt 2 0)],[(2,(25,[Sl a1 h_.ae c1,Sl a2 h_.al c2]))]⟩ fun Z a r7 rS hS hE hr=>?_
 replace hO:=hO.m2 hE
 replace h1:=h1.m1 hE
 replace h2:=h2.m1 hE
 clear hE hr
 refine rPe T hS [] [(3,V (.slice none 0 0))] fun a hS=>?_
 refine cb (fun a w=>∃ (Z:Nat->Nat) (X:Nat->Nat) (bD:List aw) (dw:Option Addr) (dv:Nat),VC47_J1 Q bD/\St Tryz.f47.ntmps ⟨[(3,Sl dw bD dv)],[]⟩ Z a w X/\Old w0 X0 w X/\OS aR 61 w X 1003 dw bD dv) ?_ ?_
 ·refine rP T hS ⟨[(3,V (.slice none 0 0)),(7,Sl a2 h_.al c2),(8,I (lN h_.al)),(9,I 0)],[]⟩ fun a hS=>?_
  refine aQ ?_
  obtain ⟨I1,μ1,cJ,hm⟩:=hm
  refine cH (σ:=(List aw) × Int) (fun s a w=>∃ Z X je jd,I1 s.1 s.2/\St Tryz.f47.ntmps ⟨[(3,Sl je s.1 jd),(7,Sl a2 h_.al c2),(8,I (lN h_.al)),(9,I s.2)],[]⟩ Z a w X/\Old w0 X0 w X/\OS aR 61 w X 1003 je s.1 jd/\RS aL w X a2 h_.al c2) (fun s=>μ1 s.1 s.2) (⟨[],0⟩) ?_ ?_
  ·exact ⟨Z,_,none,0,cJ,hS.sl _,hO,(OS.nil _ _ _ _ _),h2⟩
  rintro ⟨gY,cZ⟩ a r8 ⟨Z,rT,je,jd,hI,hS,hO,h110,h111⟩
  replace hm:=hm gY cZ hI
  clear hI cJ
  refine rPe T hS [] [(10,B (decide (cZ < (lN h_.al))))] fun a hS=>?_
  refine bh ?_
  refine aI hS (b:=decide (cZ < (lN h_.al))) kr (fun hb=>?_) fun hb=>?_
  ·replace hm:=hm.1 hb
   refine aO (bh ?_)
   refine aQ ?_
   refine br ?_
   obtain ⟨hq,hm⟩:=hm
   refine op1 (index (e:=63) (k:=.i64) T hS kr kr kr kr h111 kr kr hq.1 hq.2 ?_)
   intro Hx a h114 hS
   refine op1 (eS T hS kr kr kr h114 kr kr ?_)
   intro v115 a hv hS
   subst hv
   refine eM T hS ⟨[(3,Sl je gY jd),(5,Pt 6 0),(7,Sl a2 h_.al c2),(8,I (lN h_.al)),(9,I cZ)],[(6,(63,[I ((gi h_.al cZ).az),I (((gi h_.al cZ).aN).bm),I (((gi h_.al cZ).aN).ah),I (((gi h_.al cZ).aN).N)]))]⟩ fun Z a z4 yn hS hE hr=>?_
   replace hO:=hO.m2 hE
   replace h110:=h110.m2 hE
   replace h111:=h111.m1 hE
   clear hE hr
   refine region ?_
   refine oP T hS 3 ⟨[(3,Sl je gY jd),(7,Sl a2 h_.al c2),(8,I (lN h_.al)),(9,I cZ),(13,Sl je gY jd),(15,V (.agg #[.int .i64 (((gi h_.al cZ).aN).bm),.int .i64 (((gi h_.al cZ).aN).ah),.int .i64 (((gi h_.al cZ).aN).N)]))],[]⟩ fun a hS=>?_
   refine op1 (lit (E:=61) (col:=0) (T:=aR) (vals:=[.agg #[.int .i64 (((gi h_.al cZ).aN).bm),.int .i64 (((gi h_.al cZ).aN).ah),.int .i64 (((gi h_.al cZ).aN).N)]]) (ys:=[((gi h_.al cZ).aN)]) T hS kr kr kr kr (by exact ⟨rfl,trivial⟩) rfl kr kr kr kr ?_)
   intro b116 a Bs EP hE h119 hN hS
   clear hN
   replace hO:=hO.m2 hE
   replace h110:=h110.m2 hE
   replace h111:=h111.m1 hE
   replace h119:=h119.rs0
   obtain ⟨hq,hm⟩:=hm
   obtain ⟨news,hN⟩:=h119.src
   refine op1 (append (E:=61) (T:=aR) (col:=1003) (xs:=gY) T hS kr kr kr kr h110 hN kr kr kr kr hq ?_)
   intro pB px a Br EO hE h122 hS
   clear hq hN
   clear h110
   replace hO:=hO.m2 hE
   replace h111:=h111.m1 hE
   replace h119:=h119.m1 hE
   refine ePe T hS [15,16,17] [(3,Sl pB (gY++[((gi h_.al cZ).aN)]) px)] fun a hS=>?_
   refine region (ePe T hS [] [(9,I (wR (cZ+1)))] fun a hS=>?_)
   exact ⟨⟨gY++[((gi h_.al cZ).aN)],wR (cZ+1)⟩,⟨Z,_,pB,px,hm.1,hS.sl _,hO,h122,h111⟩,hm.2⟩
  replace hm:=hm.2 hb
  refine cu (by rfl) ?_
  exact ⟨Z,_,gY,je,jd,hm,hS.sl _,hO,h110⟩
 rintro a uV ⟨Z,se,bD,dw,dv,hm,hS,hO,h104⟩
 unfold VC47_J1 at hm
 refine rPe T hS [3] [(2,Sl dw bD dv)] fun a hS=>?_
 refine ba ?_
 obtain ⟨pD,hE,hF⟩:=h104.freeze (by decide)
 replace hS:=hS.ev hE (c6 kr)
 replace hO:=hO.m2 hE
 have h106:=hF; clear hE hF
 exact fin T hS hO (fun c=>c) rfl (r:=[.slice dw bD.length dv]) kr (fun X' hM hC=>⟨bD,hm,dw,dv,rfl,h106.m0 hM⟩)
theorem C47 (v:∀ (h_:ak),ln h_->VC47 h_ (fun r=>r=bo h_)):S47:=by
 intro w X h_ a1 c1 a2 c2   hp h1 h2
 refine (W47 w X h_ a1 c1 a2 c2   _ (v h_ hp) h1 h2).mono ?_
 rintro _ _ _ _ ⟨r,rfl,h⟩
 exact h
theorem W52 (ui:S53) (w0) (X0) (o_:ao) (a1) (c1) (Q:Bool->Prop) (hm:VC52 o_ Q) (h1:RS aB w0 X0 a1 o_.Rows c1) :
  Ret Tryz.prog 52 #[.agg #[.int .i64 o_.au,.int .i64 o_.aA,.int .i64 o_.aH,.slice a1 o_.Rows.length c1]] aM w0 X0 (fun w X' v=>∃ r,Q r/\v=.bool r):=by
 unfold VC52 at hm
 replace hm:=hm (h1.sm kr)
 refine enter Tryz.func52 rfl (vals:=[.agg #[.int .i64 o_.au,.int .i64 o_.aA,.int .i64 o_.aH,.slice a1 o_.Rows.length c1]]) kr ?_
 intro Z a hS hO hM
 replace h1:=h1.m0 hM
 refine rM T hS ⟨[(1,Pt 2 0)],[(2,(48,(cO o_ a1 c1)))]⟩ fun Z a nA mh hS hE hr=>?_
 replace hO:=hO.m2 hE
 replace h1:=h1.m1 hE
 clear hE hr
 refine br ?_
 refine oP T hS 1 ⟨[(6,V (.agg #[.int .i64 o_.au,.int .i64 o_.aA,.int .i64 o_.aH,.slice a1 o_.Rows.length c1]))],[]⟩ fun a hS=>?_
 obtain ⟨hq,hm⟩:=hm
 refine op1 (call hS kr kr hb53 kr (fun _ _=>rfl) (ui _ _ o_ a1 c1 hq h1) ?_)
 intro v101 a fH fK hE hp hS
 replace hO:=hO.m2 hE
 replace h1:=h1.m1 hE
 obtain ⟨ay,hr⟩:∃ r,bA o_=r:=⟨_,rfl⟩
 replace hm:=hm ay hr
 rw [hr] at hp
 clear hr
 subst hp
 refine ePe T hS [6,7] [(4,I ay.2)] fun a hS=>?_
 refine rPe T hS [4] [(2,B (ay.2 != 0))] fun a hS=>?_
 refine ba ?_
 exact fin T hS hO (fun c=>c) rfl (r:=[.bool (ay.2 != 0)]) kr (fun X' hM hC=>⟨(ay.2 != 0),hm,rfl⟩)
theorem C52 (ui:S53) (v:∀ (o_:ao),kJ o_->VC52 o_ (fun r=>r=cV o_)):S52:=by
 intro w X o_ a1 c1   hp h1
 refine (W52 ui w X o_ a1 c1   _ (v o_ hp) h1).mono ?_
 rintro _ _ _ _ ⟨r,rfl,h⟩
 exact h
theorem W83_52 (Lw:S52) (w0) (X0) (s_:List ao) (a1) (c1) (Q:Int->Prop) (hm:VC83_52 s_ Q) (h1:RS aC w0 X0 a1 s_ c1) (hA:dS []) :
  Ret Tryz.prog 83 #[.slice a1 s_.length c1,.func (.func 52) #[] #[]] (pR []) w0 X0 (fun w X' v=>∃ r,Q r/\v=.int .i64 r):=by
 unfold VC83_52 at hm
 replace hm:=hm (h1.sm kr)
 refine fT Tryz.func83 rfl (dH []) (fun id=>0) (args:=[Sl a1 s_ c1,.f (.func 52) [] []]) (bxs:=[]) kr rfl bq.nil (fJ (fun q hq=>(hA.2 q.1 (List.mem_map.2 ⟨q,hq,rfl⟩)).1)) ?_
 intro a hS hO hM
 generalize (fun id:Nat=>0)=Z at hS
 replace h1:=h1.m0 hM
 refine rPe T hS [] [] fun a hS=>?_
 refine cb (fun a w=>∃ Z X,VC83_52_J1 Q/\St Tryz.f83.ntmps ⟨[],[]⟩ Z a w X/\gq (dH []) w0 X0 w X) ?_ ?_
 ·refine rPe T hS [] [(7,I (lN s_)),(8,I 0)] fun a hS=>?_
  refine aQ ?_
  obtain ⟨I1,μ1,cJ,hm⟩:=hm
  refine cH (σ:=Int) (fun s a w=>∃ Z X,I1 s/\St Tryz.f83.ntmps ⟨[(0,Sl a1 s_ c1),(1,.f (.func 52) [] []),(7,I (lN s_)),(8,I s)],[]⟩ Z a w X/\gq (dH []) w0 X0 w X/\RS aC w X a1 s_ c1) (fun s=>μ1 s) (0) ?_ ?_
  ·exact ⟨Z,_,cJ,hS.sl _,hO,h1⟩
  rintro bB a H4 ⟨Z,wT,hI,hS,hO,h101⟩
  replace hm:=hm bB hI
  clear hI cJ
  refine rPe T hS [] [(9,B (decide (bB < (lN s_))))] fun a hS=>?_
  refine bh ?_
  refine aI hS (b:=decide (bB < (lN s_))) kr (fun hb=>?_) fun hb=>?_
  ·replace hm:=hm.1 hb
   refine aO (bh ?_)
   refine aQ ?_
   refine rPe T hS [9] [(5,I bB)] fun a hS=>?_
   refine br ?_
   refine oPe T hS 3 [] [(11,.f (.func 52) [] []),(12,Sl a1 s_ c1),(13,I bB)] fun a hS=>?_
   obtain ⟨hq,hm⟩:=hm
   refine op1 (index (e:=48) (k:=.i64) T hS kr kr kr kr h101 kr kr hq.1 hq.2 ?_)
   intro uP a h104 hS
   refine op1 (eS T hS kr kr kr h104 kr kr ?_)
   intro v105 a hv hS
   obtain ⟨kP,kN,hv,h108⟩:=hv
   subst hv
   replace hm:=hm (h108.sm kr)
   obtain ⟨hq,hm⟩:=hm
   refine op1 (FQ (fi:=[]) (cp:=[]) hS kr kr hb52 kr kr (fun _ _=>rfl) (Lw _ _ (gi s_ bB) kP kN hq h108) ?_)
   intro v109 a F3 Hp hE hp hS
   replace hO:=hO.m2 hE
   replace h101:=h101.m1 hE
   replace h104:=h104.m1 hE
   replace h108:=h108.m1 hE
   obtain ⟨bM,hr⟩:∃ r,cV (gi s_ bB)=r:=⟨_,rfl⟩
   replace hm:=hm bM hr
   rw [hr] at hp
   clear hr
   subst hp
   refine iy ?_
   refine aI hS (b:=bM) kr (fun hb=>?_) fun hb=>?_
   ·replace hm:=hm.1 hb
    refine rPe T hS [0,1,5,7,8,16] [(4,I bB)] fun a hS=>?_
    refine ba ?_
    exact g9 T hS hO (fun c h=>bZ kr h) (fun c h=>b0 (l:=[]) h) (bT []) rfl (r:=[.int .i64 bB]) kr (fun X' hM hC=>⟨bB,hm,rfl⟩)
   replace hm:=hm.2 hb
   refine aO ?_
   refine region (ePe T hS [5,16] [(8,I (wR (bB+1)))] fun a hS=>?_)
   exact ⟨wR (bB+1),⟨Z,_,hm.1,hS.sl _,hO,h101⟩,hm.2⟩
  replace hm:=hm.2 hb
  refine cu (by rfl) ?_
  exact ⟨Z,_,hm,hS.sl _,hO⟩
 rintro a uY ⟨Z,ER,hm,hS,hO⟩
 unfold VC83_52_J1 at hm
 refine rPe T hS [] [(4,I (-1))] fun a hS=>?_
 refine ba ?_
 exact g9 T hS hO (fun c h=>bZ kr h) (fun c h=>b0 (l:=[]) h) (bT []) rfl (r:=[.int .i64 (-1)]) kr (fun X' hM hC=>⟨(-1),hm,rfl⟩)
theorem C83_52 (Lw:S52) (v:∀ (s_:List ao),mw s_->VC83_52 s_ (fun r=>r=bd s_)):S83_52:=by
 intro w X s_ a1 c1   hp h1 hA
 refine (W83_52 Lw w X s_ a1 c1   _ (v s_ hp) h1 hA).mono ?_
 rintro _ _ _ _ ⟨r,rfl,h⟩
 exact h
theorem W54_52 (xS:S83_52) (w0) (X0) (s_:List ao) (a1) (c1) (Q:Bool->Prop) (hm:VC54_52 s_ Q) (h1:RS aC w0 X0 a1 s_ c1) (hA:dS []) :
  Ret Tryz.prog 54 #[.slice a1 s_.length c1,.func (.func 52) #[] #[]] (pR []) w0 X0 (fun w X' v=>∃ r,Q r/\v=.bool r):=by
 unfold VC54_52 at hm
 replace hm:=hm (h1.sm kr)
 refine fT Tryz.func54 rfl (dH []) (fun id=>0) (args:=[Sl a1 s_ c1,.f (.func 52) [] []]) (bxs:=[]) kr rfl bq.nil (fJ (fun q hq=>(hA.2 q.1 (List.mem_map.2 ⟨q,hq,rfl⟩)).1)) ?_
 intro a hS hO hM
 generalize (fun id:Nat=>0)=Z at hS
 replace h1:=h1.m0 hM
 refine rPe T hS [] [] fun a hS=>?_
 refine br ?_
 refine oPe T hS 2 [0,1] [(5,Sl a1 s_ c1),(6,.f (.func 52) [] [])] fun a hS=>?_
 obtain ⟨hq,hm⟩:=hm
 refine op1 (l9 hS kr kr hb83 kr (xS _ _ s_ a1 c1 hq h1 ⟨by decide,by decide⟩) ?_)
 intro v101 a fH fK hE hp hS
 replace hO:=hO.m2 hE
 replace h1:=h1.m1 hE
 obtain ⟨ay,hr⟩:∃ r,bd s_=r:=⟨_,rfl⟩
 replace hm:=hm ay hr
 rw [hr] at hp
 clear hr
 subst hp
 refine ePe T hS [5,6,7] [(4,B (decide (ay≥0)))] fun a hS=>?_
 refine ba ?_
 exact g9 T hS hO (fun c h=>bZ kr h) (fun c h=>b0 (l:=[]) h) (bT []) rfl (r:=[.bool (decide (ay≥0))]) kr (fun X' hM hC=>⟨(decide (ay≥0)),hm,rfl⟩)
theorem C54_52 (xS:S83_52) (v:∀ (s_:List ao),mw s_->VC54_52 s_ (fun r=>r=aZ s_)):S54_52:=by
 intro w X s_ a1 c1   hp h1 hA
 refine (W54_52 xS w X s_ a1 c1   _ (v s_ hp) h1 hA).mono ?_
 rintro _ _ _ _ ⟨r,rfl,h⟩
 exact h
theorem W23 (Cf:S47) (xW:S54_52) (Gt:S55) (w0) (X0) (h_:ak) (a1) (c1) (a2) (c2) (Q:Int × Int->Prop) (hm:VC23 h_ Q) (h1:RS aC w0 X0 a1 h_.ae c1) (h2:RS aL w0 X0 a2 h_.al c2) :
  Ret Tryz.prog 23 #[.agg #[.slice a1 h_.ae.length c1,.slice a2 h_.al.length c2]] aM w0 X0 (fun w X' v=>∃ r,Q r/\v=.tuple #[.int .i64 r.1,.int .i64 r.2]):=by
 unfold VC23 at hm
 replace hm:=hm (h1.sm kr)
 replace hm:=hm (h2.sm kr)
 refine enter Tryz.func23 rfl (vals:=[.agg #[.slice a1 h_.ae.length c1,.slice a2 h_.al.length c2]]) kr ?_
 intro Z a hS hO hM
 replace h1:=h1.m0 hM
 replace h2:=h2.m0 hM
 refine rM T hS ⟨[(1,Pt 2 0)],[(2,(25,[Sl a1 h_.ae c1,Sl a2 h_.al c2]))]⟩ fun Z a HX Hj hS hE hr=>?_
 replace hO:=hO.m2 hE
 replace h1:=h1.m1 hE
 replace h2:=h2.m1 hE
 clear hE hr
 refine rPe T hS [] [(4,.f (.func 52) [] [])] fun a hS=>?_
 refine bh ?_
 refine cb (fun a w=>∃ (Z:Nat->Nat) (X:Nat->Nat) (bD:Bool),VC23_J1 h_ Q bD/\St Tryz.f23.ntmps ⟨[(1,Pt 2 0),(25,B bD)],[(2,(25,[Sl a1 h_.ae c1,Sl a2 h_.al c2]))]⟩ Z a w X/\Old w0 X0 w X/\RS aC w X a1 h_.ae c1/\RS aL w X a2 h_.al c2) ?_ ?_
 ·refine region ?_
  refine oPe T hS 11 [] [(20,B ((decide ((lN h_.ae) < 1)) || (decide ((lN h_.ae) > 8))))] (sp:=[14]) fun a hS=>?_
  rcases bft ((decide ((lN h_.ae) < 1)) || (decide ((lN h_.ae) > 8))) with hb | hb
  ·replace hS:=hS.lit (t:=20) kr hb
   replace hm:=hm.1 hb
   refine ePe T hS [4,20] [(25,B true)] fun a hS=>?_
   exact ⟨Z,_,true,hm,hS.sl _,hO,h1,h2⟩
  replace hS:=hS.lit (t:=20) kr hb
  replace hm:=hm.2 hb
  refine oPe T hS 3 [4] [(22,Sl a1 h_.ae c1),(23,.f (.func 52) [] [])] fun a hS=>?_
  obtain ⟨hq,hm⟩:=hm
  refine op1 (l9 hS kr kr hb54 kr (xW _ _ h_.ae a1 c1 hq h1 ⟨by decide,by decide⟩) ?_)
  intro v160 a HY Ng hE hp hS
  replace hO:=hO.m2 hE
  replace h1:=h1.m1 hE
  replace h2:=h2.m1 hE
  obtain ⟨Aj,hr⟩:∃ r,aZ h_.ae=r:=⟨_,rfl⟩
  replace hm:=hm Aj hr
  rw [hr] at hp
  clear hr
  subst hp
  refine ePe T hS [20,22,23,24] [(25,B Aj)] fun a hS=>?_
  exact ⟨Z,_,Aj,hm,hS.sl _,hO,h1,h2⟩
 rintro a DH ⟨Z,Hk,bD,hm,hS,hO,h102,h103⟩
 unfold VC23_J1 at hm
 refine aI hS (b:=bD) kr (fun hb=>?_) fun hb=>?_
 ·replace hm:=hm.1 hb
  refine rP T hS ⟨[(2,I (-1)),(3,I 2)],[]⟩ fun a hS=>?_
  refine ba ?_
  exact fin T hS hO (fun c=>c) rfl (r:=[.int .i64 (-1),.int .i64 2]) kr (fun X' hM hC=>⟨((-1),2),hm,rfl⟩)
 replace hm:=hm.2 hb
 refine aO (bh ?_)
 refine br ?_
 refine oPe T hS 1 [25] [(27,V (.agg #[.slice a1 h_.ae.length c1,.slice a2 h_.al.length c2]))] fun a hS=>?_
 obtain ⟨hq,hm⟩:=hm
 refine op1 (call hS kr kr hb47 kr (fun _ _=>rfl) (Cf _ _ (⟨h_.ae,h_.al⟩:ak) a1 c1 a2 c2 hq h102 h103) ?_)
 intro v104 a nA mh hE hp hS
 replace hO:=hO.m2 hE
 replace h102:=h102.m1 hE
 replace h103:=h103.m1 hE
 obtain ⟨je,jd,hp,h110⟩:=hp
 obtain ⟨nE,hr⟩:∃ r,bo (⟨h_.ae,h_.al⟩:ak)=r:=⟨_,rfl⟩
 replace hm:=hm nE hr
 rw [hr] at hp h110
 clear hr
 subst hp
 replace hm:=hm (h110.sm kr)
 refine op1 (call hS kr kr hb55 kr (fun _ _=>rfl) (Gt _ _ nE je jd h110) ?_)
 intro v111 a Bt wT hE hp hS
 replace hO:=hO.m2 hE
 replace h102:=h102.m1 hE
 replace h103:=h103.m1 hE
 replace h110:=h110.m1 hE
 obtain ⟨dA,hr⟩:∃ r,bE nE=r:=⟨_,rfl⟩
 replace hm:=hm dA hr
 rw [hr] at hp
 clear hr
 subst hp
 refine ePe T hS [27,28,29] [(5,I dA.1),(6,I dA.2)] fun a hS=>?_
 refine rPe T hS [] [(33,B (dA.2 != 0))] fun a hS=>?_
 refine aI hS (b:=(dA.2 != 0)) kr (fun hb=>?_) fun hb=>?_
 ·replace hm:=hm.1 hb
  refine rP T hS ⟨[(2,I dA.1),(3,I dA.2)],[]⟩ fun a hS=>?_
  refine ba ?_
  exact fin T hS hO (fun c=>c) rfl (r:=[.int .i64 dA.1,.int .i64 dA.2]) kr (fun X' hM hC=>⟨(dA.1,dA.2),hm,rfl⟩)
 replace hm:=hm.2 hb
 refine aO ?_
 refine br ?_
 refine op1 (pM kI tI false 1037 hS kr kr ?_)
 intro c9 a uY yq hE h118 hS
 replace hO:=hO.m2 hE
 replace h102:=h102.m1 hE
 replace h103:=h103.m1 hE
 refine ePe T hS [5,6,33,36] [(7,V (.map (some c9)))] fun a hS=>?_
 refine cb (fun a w=>∃ Z X,VC23_J2 h_ Q/\St Tryz.f23.ntmps ⟨[(1,Pt 2 0)],[(2,(25,[Sl a1 h_.ae c1,Sl a2 h_.al c2]))]⟩ Z a w X/\Old w0 X0 w X/\RS aC w X a1 h_.ae c1/\RS aL w X a2 h_.al c2) ?_ ?_
 ·refine rPe T hS [] [(38,Sl a2 h_.al c2),(39,I (lN h_.al)),(40,I 0)] fun a hS=>?_
  refine aQ ?_
  obtain ⟨I1,μ1,cJ,hm⟩:=hm
  refine cH (σ:=(List (Int × Int)) × Int) (fun s a w=>∃ Z X,I1 s.1 s.2/\St Tryz.f23.ntmps ⟨[(1,Pt 2 0),(7,V (.map (some c9))),(38,Sl a2 h_.al c2),(39,I (lN h_.al)),(40,I s.2)],[(2,(25,[Sl a1 h_.ae c1,Sl a2 h_.al c2]))]⟩ Z a w X/\Old w0 X0 w X/\OM kI tI false w X 1037 c9 s.1/\RS aL w X a2 h_.al c2/\RS aC w X a1 h_.ae c1/\RS aL w X a2 h_.al c2) (fun s=>μ1 s.1 s.2) (⟨([]:List (Int × Int)),0⟩) ?_ ?_
  ·exact ⟨Z,_,cJ,hS.sl _,hO,h118,h103,h102,h103⟩
  rintro ⟨iM,dK⟩ a zY ⟨Z,Dc,hI,hS,hO,h122,h123,h125,h126⟩
  replace hm:=hm iM dK hI
  clear hI cJ
  refine rPe T hS [] [(41,B (decide (dK < (lN h_.al))))] fun a hS=>?_
  refine bh ?_
  refine aI hS (b:=decide (dK < (lN h_.al))) kr (fun hb=>?_) fun hb=>?_
  ·replace hm:=hm.1 hb
   refine aO (bh ?_)
   refine aQ ?_
   refine br ?_
   refine oPe T hS 1 [41] [(42,I dK)] fun a hS=>?_
   obtain ⟨hq,hm⟩:=hm
   refine op1 (index (e:=63) (k:=.i64) T hS kr kr kr kr h123 kr kr hq.1 hq.2 ?_)
   intro Nw a h128 hS
   refine op1 (eS T hS kr kr kr h128 kr kr ?_)
   intro v129 a hv hS
   subst hv
   refine eM T hS ⟨[(1,Pt 2 0),(7,V (.map (some c9))),(8,I dK),(9,Pt 10 0),(38,Sl a2 h_.al c2),(39,I (lN h_.al)),(40,I dK)],[(2,(25,[Sl a1 h_.ae c1,Sl a2 h_.al c2])),(10,(63,[I ((gi h_.al dK).az),I (((gi h_.al dK).aN).bm),I (((gi h_.al dK).aN).ah),I (((gi h_.al dK).aN).N)]))]⟩ fun Z a tt yj hS hE hr=>?_
   replace hO:=hO.m2 hE
   replace h122:=h122.m2 hE
   replace h123:=h123.m1 hE
   replace h125:=h125.m1 hE
   replace h126:=h126.m1 hE
   clear hE hr
   refine bh ?_
   refine aQ ?_
   refine rPe T hS [] [(45,B ((decide (((gi h_.al dK).az) < 0)) || (decide (((gi h_.al dK).az)≥(lN h_.ae)))))] (sp:=[49]) fun a hS=>?_
   refine aI hS (b:=((decide (((gi h_.al dK).az) < 0)) || (decide (((gi h_.al dK).az)≥(lN h_.ae))))) kr (fun hb=>?_) fun hb=>?_
   ·replace hm:=hm.1 hb
    refine rP T hS ⟨[(2,I dK),(3,I 2)],[]⟩ fun a hS=>?_
    refine ba ?_
    exact fin T hS hO (fun c=>c) rfl (r:=[.int .i64 dK,.int .i64 2]) kr (fun X' hM hC=>⟨(dK,2),hm,rfl⟩)
   replace hm:=hm.2 hb
   refine cb (fun a w=>∃ (Z:Nat->Nat) (X:Nat->Nat) (gV:Bool),VC23_J3 h_ Q I1 μ1 iM dK gV/\St Tryz.f23.ntmps ⟨[(1,Pt 2 0),(7,V (.map (some c9))),(8,I dK),(9,Pt 10 0),(38,Sl a2 h_.al c2),(39,I (lN h_.al)),(40,I dK),(58,B gV)],[(2,(25,[Sl a1 h_.ae c1,Sl a2 h_.al c2])),(10,(63,[I ((gi h_.al dK).az),I (((gi h_.al dK).aN).bm),I (((gi h_.al dK).aN).ah),I (((gi h_.al dK).aN).N)]))]⟩ Z a w X/\Old w0 X0 w X/\OM kI tI false w X 1037 c9 iM/\RS aL w X a2 h_.al c2/\RS aC w X a1 h_.ae c1/\RS aL w X a2 h_.al c2) ?_ ?_
   ·refine region ?_
    refine oPe T hS 5 [45] [(63,B ((((gi h_.al dK).aN).bm) == 2))] fun a hS=>?_
    rcases bft ((((gi h_.al dK).aN).bm) == 2) with hb | hb
    ·replace hS:=hS.lit (t:=63) kr hb
     replace hm:=hm.1 hb
     refine oPe T hS 4 [] [(64,V (.map (some c9))),(67,I (((gi h_.al dK).aN).ah))] fun a hS=>?_
     refine op1 (kd kI tI false (zv:=.int .i64 0) (z:=0) (((gi h_.al dK).aN).ah) hS kr kr kr kr Tryz.underlying113 Tryz.underlying3 kr rfl h122 ?_)
     intro v151 a hv hS
     replace hv:tI.R _ _ [v151] _:=hv
     cases hv
     refine ePe T hS [63,64,67,68] [(58,B (((aF iM (((gi h_.al dK).aN).ah)).getD 0) != ((gi h_.al dK).az)))] fun a hS=>?_
     exact ⟨Z,_,(((aF iM (((gi h_.al dK).aN).ah)).getD 0) != ((gi h_.al dK).az)),hm,hS.sl _,hO,h122,h123,h125,h126⟩
    replace hS:=hS.lit (t:=63) kr hb
    replace hm:=hm.2 hb
    refine ePe T hS [63] [(58,B false)] fun a hS=>?_
    exact ⟨Z,_,false,hm,hS.sl _,hO,h122,h123,h125,h126⟩
   rintro a Bq ⟨Z,yk,gV,hm,hS,hO,h130,h131,h133,h134⟩
   unfold VC23_J3 at hm
   refine aI hS (b:=gV) kr (fun hb=>?_) fun hb=>?_
   ·replace hm:=hm.1 hb
    refine rP T hS ⟨[(2,I dK),(3,I 32)],[]⟩ fun a hS=>?_
    refine ba ?_
    exact fin T hS hO (fun c=>c) rfl (r:=[.int .i64 dK,.int .i64 32]) kr (fun X' hM hC=>⟨(dK,32),hm,rfl⟩)
   replace hm:=hm.2 hb
   refine cb (fun a w=>∃ (Z:Nat->Nat) (X:Nat->Nat) (DE:Bool),VC23_J4 h_ Q I1 μ1 iM dK DE/\St Tryz.f23.ntmps ⟨[(1,Pt 2 0),(7,V (.map (some c9))),(8,I dK),(9,Pt 10 0),(38,Sl a2 h_.al c2),(39,I (lN h_.al)),(40,I dK),(74,B DE)],[(2,(25,[Sl a1 h_.ae c1,Sl a2 h_.al c2])),(10,(63,[I ((gi h_.al dK).az),I (((gi h_.al dK).aN).bm),I (((gi h_.al dK).aN).ah),I (((gi h_.al dK).aN).N)]))]⟩ Z a w X/\Old w0 X0 w X/\OM kI tI false w X 1037 c9 iM/\RS aL w X a2 h_.al c2/\RS aC w X a1 h_.ae c1/\RS aL w X a2 h_.al c2) ?_ ?_
   ·refine hJ [2,10] mixed hS ?_
    intro r6 sd hS hE hD hH
    replace hO:=hO.m2 hE
    replace h130:=h130.m2 hE
    replace h131:=h131.m1 hE
    replace h133:=h133.m1 hE
    replace h134:=h134.m1 hE
    refine tke T [0,1,2,3,4] [2,10] hS hH #[true,true,true,true,true,false,false,false,false,false,false,false,false,false,false,false,false,false] 13 [] [(79,B ((((gi h_.al dK).aN).bm) == 1))] fun a hS=>?_
    rcases bft ((((gi h_.al dK).aN).bm) == 1) with hb | hb
    ·replace hS:=hS.lit (t:=79) kr hb
     replace hm:=hm.1 hb
     refine tke T [5,8,10,6,9,11,7] [2,10] hS hH #[true,true,true,true,true,true,true,true,true,true,true,true,false,false,false,false,false,false] 6 [] [(82,I (((gi h_.al dK).aN).N)),(84,Sl a1 h_.ae c1),(86,I ((gi h_.al dK).az))] fun a hS=>?_
     obtain ⟨hq,hm⟩:=hm
     refine dg (e:=48) (k:=.i64) T 12 hS kr kr kr (by rfl) kr hH kr kr h133 kr kr hq.1 hq.2 ?_
     intro Sc a h145 hS
     have I9:=h145.here
     refine dt (off:=1) (fsz:=1) (ft:=3) (TF:=tI) (y:=(gi h_.ae ((gi h_.al dK).az)).aA) 13 T hS kr kr kr (by rfl) kr hH kr h145 kr kr kr (fun cs h=>nx h) ?_
     intro Sb a h147 fO hS
     have FH:=I9
     rw [← fO] at FH
     clear fO
     refine dQ T 14 hS kr kr kr (by rfl) kr hH kr h147 FH rfl kr ?_
     intro v148 a hv hS
     cases hv
     refine tke T [15,16,17] [2,10] hS hH (tts 18) 0 [79,82,84,86,87,88,89] [(74,B (decide ((((gi h_.al dK).aN).N)≥((gi h_.ae ((gi h_.al dK).az)).aA))))] fun a hS=>?_
     refine aY kr ?_
     replace hS:=hS.sle [] []
     exact ⟨Z,_,decide ((((gi h_.al dK).aN).N)≥((gi h_.ae ((gi h_.al dK).az)).aA)),hm,hS.sl _,hO,h130,h131,h133,h134⟩
    replace hS:=hS.lit (t:=79) kr hb
    replace hm:=hm.2 hb
    refine tke T [5,8,10,6,9,11,7,12,13,14,15,16,17] [2,10] hS hH (tts 18) 0 [79] [(74,B false)] fun a hS=>?_
    refine aY kr ?_
    replace hS:=hS.sle [] []
    exact ⟨Z,_,false,hm,hS.sl _,hO,h130,h131,h133,h134⟩
   rintro a DK ⟨Z,A9,DE,hm,hS,hO,h135,h136,h138,h139⟩
   unfold VC23_J4 at hm
   refine aI hS (b:=DE) kr (fun hb=>?_) fun hb=>?_
   ·replace hm:=hm.1 hb
    refine rP T hS ⟨[(2,I dK),(3,I 31)],[]⟩ fun a hS=>?_
    refine ba ?_
    exact fin T hS hO (fun c=>c) rfl (r:=[.int .i64 dK,.int .i64 31]) kr (fun X' hM hC=>⟨(dK,31),hm,rfl⟩)
   replace hm:=hm.2 hb
   refine aO ?_
   refine region ?_
   refine oP T hS 6 ⟨[(1,Pt 2 0),(7,V (.map (some c9))),(38,Sl a2 h_.al c2),(39,I (lN h_.al)),(40,I dK),(93,V (.map (some c9))),(96,I (((gi h_.al dK).aN).ah)),(98,I ((gi h_.al dK).az))],[(2,(25,[Sl a1 h_.ae c1,Sl a2 h_.al c2]))]⟩ fun a hS=>?_
   refine op1 (ue kI tI false (v:=I ((gi h_.al dK).az)) (u:=(gi h_.al dK).az) (((gi h_.al dK).aN).ah) hS kr kr kr kr Tryz.underlying113 Tryz.underlying3 kr h135 rfl ?_)
   intro a zZ hE h141 hS
   clear h135
   replace hO:=hO.m2 hE
   replace h136:=h136.m1 hE
   replace h138:=h138.m1 hE
   replace h139:=h139.m1 hE
   refine iy ?_
   refine region (ePe T hS [] [(40,I (wR (dK+1)))] fun a hS=>?_)
   exact ⟨⟨dp iM (((gi h_.al dK).aN).ah) ((gi h_.al dK).az),wR (dK+1)⟩,⟨Z,_,hm.1,hS.sl _,hO,h141,h136,h138,h139⟩,hm.2⟩
  replace hm:=hm.2 hb
  refine cu (by rfl) ?_
  exact ⟨Z,_,hm,hS.sl _,hO,h125,h126⟩
 rintro a zX ⟨Z,A8,hm,hS,hO,h119,h120⟩
 unfold VC23_J2 at hm
 refine rP T hS ⟨[(2,I (lN h_.al)),(3,I 0)],[]⟩ fun a hS=>?_
 refine ba ?_
 exact fin T hS hO (fun c=>c) rfl (r:=[.int .i64 (lN h_.al),.int .i64 0]) kr (fun X' hM hC=>⟨((lN h_.al),0),hm,rfl⟩)
theorem C23 (Cf:S47) (xW:S54_52) (Gt:S55) (v:∀ (h_:ak),gr h_->VC23 h_ (fun r=>r=aD h_)):S23:=by
 intro w X h_ a1 c1 a2 c2   hp h1 h2
 refine (W23 Cf xW Gt w X h_ a1 c1 a2 c2   _ (v h_ hp) h1 h2).mono ?_
 rintro _ _ _ _ ⟨r,rfl,h⟩
 exact h
theorem W45 (w0) (X0) (l_:List aK) (a1) (c1) (Q:(List aw)->Prop) (hm:VC45 l_ Q) (h1:RS bP w0 X0 a1 l_ c1) :
  Ret Tryz.prog 45 #[.slice a1 l_.length c1] aM w0 X0 (fun w X' v=>∃ r,Q r/\∃ cQ cN,v=.slice cQ r.length cN/\RS aR w X' cQ r cN):=by
 unfold VC45 at hm
 replace hm:=hm (h1.sm kr)
 refine enter Tryz.func45 rfl (vals:=[.slice a1 l_.length c1]) kr ?_
 intro Z a hS hO hM
 replace h1:=h1.m0 hM
 refine rPe T hS [] [] fun a hS=>?_
 refine rPe T hS [] [(3,V (.slice none 0 0))] fun a hS=>?_
 refine cb (fun a w=>∃ (Z:Nat->Nat) (X:Nat->Nat) (bD:List aw) (dw:Option Addr) (dv:Nat),VC45_J1 Q bD/\St Tryz.f45.ntmps ⟨[(3,Sl dw bD dv)],[]⟩ Z a w X/\Old w0 X0 w X/\OS aR 61 w X 1003 dw bD dv) ?_ ?_
 ·refine rPe T hS [] [(4,I 0)] fun a hS=>?_
  refine aQ ?_
  obtain ⟨I1,μ1,cJ,hm⟩:=hm
  refine cH (σ:=(List aw) × Int) (fun s a w=>∃ Z X cA cz,I1 s.1 s.2/\St Tryz.f45.ntmps ⟨[(0,Sl a1 l_ c1),(3,Sl cA s.1 cz),(4,I s.2)],[]⟩ Z a w X/\Old w0 X0 w X/\RS bP w X a1 l_ c1/\OS aR 61 w X 1003 cA s.1 cz) (fun s=>μ1 s.1 s.2) (⟨[],0⟩) ?_ ?_
  ·exact ⟨Z,_,none,0,cJ,hS.sl _,hO,h1,(OS.nil _ _ _ _ _)⟩
  rintro ⟨dz,cZ⟩ a r8 ⟨Z,rT,cA,cz,hI,hS,hO,h107,h111⟩
  replace hm:=hm dz cZ hI
  clear hI cJ
  refine bh ?_
  refine rPe T hS [] [(8,B (decide (cZ < (lN l_))))] fun a hS=>?_
  refine aI hS (b:=decide (cZ < (lN l_))) kr (fun hb=>?_) fun hb=>?_
  ·replace hm:=hm.1 hb
   refine aO (bh ?_)
   refine aQ ?_
   refine region ?_
   refine oPe T hS 3 [8] [(11,Sl cA dz cz),(12,Sl a1 l_ c1),(13,I cZ)] fun a hS=>?_
   obtain ⟨hq,hm⟩:=hm
   refine op1 (index (e:=77) (k:=.i64) T hS kr kr kr kr h107 kr kr hq.1 hq.2 ?_)
   intro Hx a h114 hS
   refine op1 (fD (off:=1) (fsz:=3) (ft:=61) (TF:=aR) (y:=(gi l_ cZ).aN) T hS kr kr kr h114 kr kr kr (fun cs h=>kD h) ?_)
   intro NA a h116 hS
   refine op1 (eS T hS kr kr kr h116 kr kr ?_)
   intro v117 a hv hS
   subst hv
   refine op1 (lit (E:=61) (col:=0) (T:=aR) (vals:=[.agg #[.int .i64 (((gi l_ cZ).aN).bm),.int .i64 (((gi l_ cZ).aN).ah),.int .i64 (((gi l_ cZ).aN).N)]]) (ys:=[(gi l_ cZ).aN]) T hS kr kr kr kr (by exact ⟨rfl,trivial⟩) rfl kr kr kr kr ?_)
   intro b118 a xh Dg hE h121 hN hS
   clear hN
   replace hO:=hO.m2 hE
   replace h107:=h107.m1 hE
   replace h111:=h111.m2 hE
   replace h114:=h114.m1 hE
   replace h116:=h116.m1 hE
   replace h121:=h121.rs0
   obtain ⟨hq,hm⟩:=hm
   obtain ⟨news,hN⟩:=h121.src
   refine op1 (append (E:=61) (T:=aR) (col:=1003) (xs:=dz) T hS kr kr kr kr h111 hN kr kr kr kr hq ?_)
   intro ja iY a uX uL hE h124 hS
   clear hq hN
   clear h111
   replace hO:=hO.m2 hE
   replace h107:=h107.m1 hE
   replace h114:=h114.m1 hE
   replace h116:=h116.m1 hE
   replace h121:=h121.m1 hE
   refine ePe T hS [12,13,14,15,16,17,18] [(3,Sl ja (dz++[(gi l_ cZ).aN]) iY)] fun a hS=>?_
   refine region (ePe T hS [] [(4,I (wR (cZ+1)))] fun a hS=>?_)
   exact ⟨⟨dz++[(gi l_ cZ).aN],wR (cZ+1)⟩,⟨Z,_,ja,iY,hm.1,hS.sl _,hO,h107,h124⟩,hm.2⟩
  replace hm:=hm.2 hb
  refine cu (by rfl) ?_
  exact ⟨Z,_,dz,cA,cz,hm,hS.sl _,hO,h111⟩
 rintro a uV ⟨Z,se,bD,dw,dv,hm,hS,hO,h104⟩
 unfold VC45_J1 at hm
 refine rPe T hS [3] [(2,Sl dw bD dv)] fun a hS=>?_
 refine ba ?_
 obtain ⟨pD,hE,hF⟩:=h104.freeze (by decide)
 replace hS:=hS.ev hE (c6 kr)
 replace hO:=hO.m2 hE
 have h106:=hF; clear hE hF
 exact fin T hS hO (fun c=>c) rfl (r:=[.slice dw bD.length dv]) kr (fun X' hM hC=>⟨bD,hm,dw,dv,rfl,h106.m0 hM⟩)
theorem C45 (v:∀ (l_:List aK),sB l_->VC45 l_ (fun r=>r=cS l_)):S45:=by
 intro w X l_ a1 c1   hp h1
 refine (W45 w X l_ a1 c1   _ (v l_ hp) h1).mono ?_
 rintro _ _ _ _ ⟨r,rfl,h⟩
 exact h
theorem W59 (w0) (X0) (l_:List aK) (at_:Int) (a1) (c1) (Q:Int->Prop) (hm:VC59 l_ at_ Q) (h1:RS bP w0 X0 a1 l_ c1) :
  Ret Tryz.prog 59 #[.slice a1 l_.length c1,.int .i64 at_] aM w0 X0 (fun w X' v=>∃ r,Q r/\v=.int .i64 r):=by
 unfold VC59 at hm
 replace hm:=hm (h1.sm kr)
 refine enter Tryz.func59 rfl (vals:=[.slice a1 l_.length c1,.int .i64 at_]) kr ?_
 intro Z a hS hO hM
 replace h1:=h1.m0 hM
 refine rPe T hS [] [] fun a hS=>?_
 refine cb (fun a w=>∃ Z X,VC59_J1 Q/\St Tryz.f59.ntmps ⟨[],[]⟩ Z a w X/\Old w0 X0 w X) ?_ ?_
 ·refine rPe T hS [] [(5,I (wR (at_ - 1)))] fun a hS=>?_
  refine aQ ?_
  obtain ⟨I1,μ1,cJ,hm⟩:=hm
  refine cH (σ:=Int) (fun s a w=>∃ Z X,I1 s/\St Tryz.f59.ntmps ⟨[(0,Sl a1 l_ c1),(1,I at_),(5,I s)],[]⟩ Z a w X/\Old w0 X0 w X/\RS bP w X a1 l_ c1) (fun s=>μ1 s) (wR (at_ - 1)) ?_ ?_
  ·exact ⟨Z,_,cJ,hS.sl _,hO,h1⟩
  rintro bB a z4 ⟨Z,yp,hI,hS,hO,h101⟩
  replace hm:=hm bB hI
  clear hI cJ
  refine bh ?_
  refine rPe T hS [] [(9,B (decide (bB≥0)))] fun a hS=>?_
  refine aI hS (b:=decide (bB≥0)) kr (fun hb=>?_) fun hb=>?_
  ·replace hm:=hm.1 hb
   refine aO (bh ?_)
   refine aQ ?_
   refine dB [] mixed hS ?_
   intro KO Ru hS hE hD hH
   replace hO:=hO.m2 hE
   replace h101:=h101.m1 hE
   refine tke T [0,1,6,7] [] hS hH #[true,true,false,false,false,false,true,true,false,false,false,false,false] 9 [] [(12,Sl a1 l_ c1),(13,I bB),(18,Sl a1 l_ c1),(19,I at_)] fun a hS=>?_
   obtain ⟨hq,hm⟩:=hm
   refine dg (e:=77) (k:=.i64) T 2 hS kr kr kr (by rfl) kr hH kr kr h101 kr kr hq.1 hq.2 ?_
   intro yx a h106 hS
   have rr:=h106.here
   refine dt (off:=1) (fsz:=3) (ft:=61) (TF:=aR) (y:=(gi l_ bB).aN) 3 T hS kr kr kr (by rfl) kr hH kr h106 kr kr kr (fun cs h=>kD h) ?_
   intro Hz a h108 fO hS
   have zG:=rr
   rw [← fO] at zG
   clear fO
   refine dt (off:=1) (fsz:=1) (ft:=3) (TF:=tI) (y:=((gi l_ bB).aN).ah) 4 T hS kr kr kr (by rfl) kr hH kr h108 kr kr kr (fun cs h=>iq h) ?_
   intro yw a h110 fO hS
   have lz:=zG
   rw [← fO] at lz
   clear fO
   refine dQ T 5 hS kr kr kr (by rfl) kr hH kr h110 lz rfl kr ?_
   intro v111 a hv hS
   cases hv
   obtain ⟨hq,hm⟩:=hm
   refine dg (e:=77) (k:=.i64) T 8 hS kr kr kr (by rfl) kr hH kr kr h101 kr kr hq.1 hq.2 ?_
   intro Hy a h113 hS
   have vW:=h113.here
   refine dt (off:=1) (fsz:=3) (ft:=61) (TF:=aR) (y:=(gi l_ at_).aN) 9 T hS kr kr kr (by rfl) kr hH kr h113 kr kr kr (fun cs h=>kD h) ?_
   intro ET a h115 fO hS
   have rq:=vW
   rw [← fO] at rq
   clear fO
   refine dt (off:=1) (fsz:=1) (ft:=3) (TF:=tI) (y:=((gi l_ at_).aN).ah) 10 T hS kr kr kr (by rfl) kr hH kr h115 kr kr kr (fun cs h=>iq h) ?_
   intro Hw a h117 fO hS
   have oC:=rq
   rw [← fO] at oC
   clear fO
   refine dQ T 11 hS kr kr kr (by rfl) kr hH kr h117 oC rfl kr ?_
   intro v118 a hv hS
   cases hv
   refine tke T [12] [] hS hH (tts 13) 0 [12,13,18,19,14,15,16,17,20,21,22,23] [(24,B ((((gi l_ bB).aN).ah) == (((gi l_ at_).aN).ah)))] fun a hS=>?_
   refine aY kr ?_
   replace hS:=hS.sle [] []
   refine aI hS (b:=((((gi l_ bB).aN).ah) == (((gi l_ at_).aN).ah))) kr (fun hb=>?_) fun hb=>?_
   ·replace hm:=hm.1 hb
    refine br ?_
    refine oPe T hS 2 [0,1,5,24] [(25,Sl a1 l_ c1),(26,I bB)] fun a hS=>?_
    obtain ⟨hq,hm⟩:=hm
    refine op1 (index (e:=77) (k:=.i64) T hS kr kr kr kr h101 kr kr hq.1 hq.2 ?_)
    intro Ny a h120 hS
    refine op1 (fD (off:=0) (fsz:=1) (ft:=3) (TF:=tI) (y:=(gi l_ bB).az) T hS kr kr kr h120 kr kr kr (fun cs h=>mH h) ?_)
    intro Hu a h122 hS
    refine op1 (eT T hS kr kr kr h122 rfl kr ?_)
    intro v123 a hv hS
    cases hv
    refine ePe T hS [25,26,27,28,29] [(4,I ((gi l_ bB).az))] fun a hS=>?_
    refine ba ?_
    exact fin T hS hO (fun c=>c) rfl (r:=[.int .i64 ((gi l_ bB).az)]) kr (fun X' hM hC=>⟨((gi l_ bB).az),hm,rfl⟩)
   replace hm:=hm.2 hb
   refine aO ?_
   refine region (ePe T hS [24] [(5,I (wR (bB - 1)))] fun a hS=>?_)
   exact ⟨wR (bB - 1),⟨Z,_,hm.1,hS.sl _,hO,h101⟩,hm.2⟩
  replace hm:=hm.2 hb
  refine cu (by rfl) ?_
  exact ⟨Z,_,hm,hS.sl _,hO⟩
 rintro a tw ⟨Z,yn,hm,hS,hO⟩
 unfold VC59_J1 at hm
 refine rPe T hS [] [(4,I (-1))] fun a hS=>?_
 refine ba ?_
 exact fin T hS hO (fun c=>c) rfl (r:=[.int .i64 (-1)]) kr (fun X' hM hC=>⟨(-1),hm,rfl⟩)
theorem C59 (v:∀ (l_:List aK) (at_:Int),tS l_ at_->VC59 l_ at_ (fun r=>r=fL l_ at_)):S59:=by
 intro w X l_ at_ a1 c1   hp h1
 refine (W59 w X l_ at_ a1 c1   _ (v l_ at_ hp) h1).mono ?_
 rintro _ _ _ _ ⟨r,rfl,h⟩
 exact h
end Go.Proofs.YteahldlmkheleaaGreat
