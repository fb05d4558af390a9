/- Walks of the functions: each returns what its condition asks. -/
import Derived.Test.YteahldlmkheleaaGreatLWalksS
set_option linter.all false
namespace Go.Proofs.YteahldlmkheleaaGreat
open Go Go.Sv
abbrev zAf0 (cM:Nat):Nat->Nat:=fun c=>(bif Nat.beq c 1001 then cM else c)
set_option maxHeartbeats 1000000
theorem W28 (Gv:S45) (Gu:S50) (Gs:S58) (Lt:S59) (w0) (X0) (objects:List ao) (l_:List aK) (a1) (c1) (a2) (c2) (Q:Int × Int->Prop) (hm:VC28 objects l_ Q) (h1:RS aC w0 X0 a1 objects c1) (h2:RS bP w0 X0 a2 l_ c2) :
  Ret Tryz.prog 28 #[.slice a1 objects.length c1,.slice a2 l_.length c2] aM w0 X0 (fun w X' v=>∃ r,Q r/\v=.tuple #[.int .i64 r.1,.int .i64 r.2]):=by
 unfold VC28 at hm
 replace hm:=hm (h1.sm kr)
 replace hm:=hm (h2.sm kr)
 refine enter Tryz.func28 rfl (vals:=[.slice a1 objects.length c1,.slice a2 l_.length c2]) kr ?_
 intro Z a hS hO hM
 replace h1:=h1.m0 hM
 replace h2:=h2.m0 hM
 refine rPe T hS [] [] fun a hS=>?_
 refine bh ?_
 refine rPe T hS [] [(20,B ((decide ((lN objects) < 1)) || (decide ((lN objects) > 8))))] (sp:=[16]) fun a hS=>?_
 refine aI hS (b:=((decide ((lN objects) < 1)) || (decide ((lN objects) > 8)))) kr (fun hb=>?_) fun hb=>?_
 ·replace hm:=hm.1 hb
  refine rPe T hS [0,1,20] [(4,I (-1)),(5,I 2)] fun a hS=>?_
  refine ba ?_
  exact fin T hS hO (fun c=>c) rfl (r:=[.int .i64 (-1),.int .i64 2]) kr (fun X' hM hC=>⟨((-1),2),hm,rfl⟩)
 replace hm:=hm.2 hb
 refine aO ?_
 refine cb (fun a w=>∃ Z X,VC28_J1 objects l_ Q/\St Tryz.f28.ntmps ⟨[(0,Sl a1 objects c1),(1,Sl a2 l_ c2)],[]⟩ Z a w X/\Old w0 X0 w X/\RS aC w X a1 objects c1/\RS bP w X a2 l_ c2) ?_ ?_
 ·refine rPe T hS [20] [(6,I 0)] fun a hS=>?_
  refine aQ ?_
  obtain ⟨I2,μ2,cJ,hm⟩:=hm
  refine cH (σ:=Int) (fun s a w=>∃ Z X,I2 s/\St Tryz.f28.ntmps ⟨[(0,Sl a1 objects c1),(1,Sl a2 l_ c2),(6,I s)],[]⟩ Z a w X/\Old w0 X0 w X/\RS aC w X a1 objects c1/\RS bP w X a2 l_ c2) (fun s=>μ2 s) (0) ?_ ?_
  ·exact ⟨Z,_,cJ,hS.sl _,hO,h1,h2⟩
  rintro fU a FX ⟨Z,EJ,hI,hS,hO,h150,h151⟩
  replace hm:=hm fU hI
  clear hI cJ
  refine bh ?_
  refine rPe T hS [] [(24,B (decide (fU < (lN objects))))] fun a hS=>?_
  refine aI hS (b:=decide (fU < (lN objects))) kr (fun hb=>?_) fun hb=>?_
  ·replace hm:=hm.1 hb
   refine aO (bh ?_)
   refine aQ ?_
   refine br ?_
   refine oPe T hS 2 [24] [(28,Sl a1 objects c1),(29,I fU)] fun a hS=>?_
   obtain ⟨hq,hm⟩:=hm
   refine op1 (index (e:=48) (k:=.i64) T hS kr kr kr kr h150 kr kr hq.1 hq.2 ?_)
   intro J8 a h154 hS
   refine op1 (eS T hS kr kr kr h154 kr kr ?_)
   intro v155 a hv hS
   obtain ⟨MN,MG,hv,h158⟩:=hv
   subst hv
   replace hm:=hm (h158.sm kr)
   refine op1 (call hS kr kr hb58 kr (fun _ _=>rfl) (Gs _ _ (gi objects fU) MN MG h158) ?_)
   intro v159 a Bp Db hE hp hS
   replace hO:=hO.m2 hE
   replace h150:=h150.m1 hE
   replace h151:=h151.m1 hE
   replace h154:=h154.m1 hE
   replace h158:=h158.m1 hE
   obtain ⟨vp,hr⟩:∃ r,cU (gi objects fU)=r:=⟨_,rfl⟩
   replace hm:=hm vp hr
   rw [hr] at hp
   clear hr
   subst hp
   refine ePe T hS [28,29,30,31,32] [(8,I vp.2)] fun a hS=>?_
   refine rPe T hS [8] [(36,B (vp.2 != 0))] fun a hS=>?_
   refine aI hS (b:=(vp.2 != 0)) kr (fun hb=>?_) fun hb=>?_
   ·replace hm:=hm.1 hb
    refine rPe T hS [0,1,6,36] [(4,I (-1)),(5,I 2)] fun a hS=>?_
    refine ba ?_
    exact fin T hS hO (fun c=>c) rfl (r:=[.int .i64 (-1),.int .i64 2]) kr (fun X' hM hC=>⟨((-1),2),hm,rfl⟩)
   replace hm:=hm.2 hb
   refine aO ?_
   refine region (ePe T hS [36] [(6,I (wR (fU+1)))] fun a hS=>?_)
   exact ⟨wR (fU+1),⟨Z,_,hm.1,hS.sl _,hO,h150,h151⟩,hm.2⟩
  replace hm:=hm.2 hb
  refine cu (by rfl) ?_
  exact ⟨Z,_,hm,hS.sl _,hO,h150,h151⟩
 rintro a HX ⟨Z,J0,hm,hS,hO,h101,h102⟩
 unfold VC28_J1 at hm
 refine br ?_
 refine oPe T hS 1 [] [(38,Sl a2 l_ c2)] fun a hS=>?_
 obtain ⟨hq,hm⟩:=hm
 refine op1 (call hS kr kr hb45 kr (fun _ _=>rfl) (Gv _ _ l_ a2 c2 hq h102) ?_)
 intro v103 a z6 pD hE hp hS
 replace hO:=hO.m2 hE
 replace h101:=h101.m1 hE
 replace h102:=h102.m1 hE
 obtain ⟨A7,AY,hp,h109⟩:=hp
 obtain ⟨gE,hr⟩:∃ r,cS l_=r:=⟨_,rfl⟩
 replace hm:=hm gE hr
 rw [hr] at hp h109
 clear hr
 subst hp
 replace hm:=hm (h109.sm kr)
 refine op1 (call hS kr kr hb50 kr (fun _ _=>rfl) (Gu _ _ gE A7 AY h109) ?_)
 intro v110 a DS uN hE hp hS
 replace hO:=hO.m2 hE
 replace h101:=h101.m1 hE
 replace h102:=h102.m1 hE
 replace h109:=h109.m1 hE
 obtain ⟨fX,hr⟩:∃ r,e7 gE=r:=⟨_,rfl⟩
 replace hm:=hm fX hr
 rw [hr] at hp
 clear hr
 subst hp
 refine ePe T hS [38,39,40] [(9,I fX.1),(10,I fX.2)] fun a hS=>?_
 refine bh ?_
 refine rPe T hS [] [(44,B (fX.2 != 0))] fun a hS=>?_
 refine aI hS (b:=(fX.2 != 0)) kr (fun hb=>?_) fun hb=>?_
 ·replace hm:=hm.1 hb
  refine rPe T hS [0,1,9,10,44] [(4,I fX.1),(5,I fX.2)] fun a hS=>?_
  refine ba ?_
  exact fin T hS hO (fun c=>c) rfl (r:=[.int .i64 fX.1,.int .i64 fX.2]) kr (fun X' hM hC=>⟨(fX.1,fX.2),hm,rfl⟩)
 replace hm:=hm.2 hb
 refine aO ?_
 refine cb (fun a w=>∃ Z X,VC28_J2 l_ Q/\St Tryz.f28.ntmps ⟨[(1,Sl a2 l_ c2)],[]⟩ Z a w X/\Old w0 X0 w X/\RS bP w X a2 l_ c2) ?_ ?_
 ·refine rPe T hS [9,10,44] [(11,I 0)] fun a hS=>?_
  refine aQ ?_
  obtain ⟨I1,μ1,cJ,hm⟩:=hm
  refine cH (σ:=Int) (fun s a w=>∃ Z X,I1 s/\St Tryz.f28.ntmps ⟨[(0,Sl a1 objects c1),(1,Sl a2 l_ c2),(11,I s)],[]⟩ Z a w X/\Old w0 X0 w X/\RS aC w X a1 objects c1/\RS bP w X a2 l_ c2) (fun s=>μ1 s) (0) ?_ ?_
  ·exact ⟨Z,_,cJ,hS.sl _,hO,h101,h102⟩
  rintro dN a uU ⟨Z,Ba,hI,hS,hO,h115,h116⟩
  replace hm:=hm dN hI
  clear hI cJ
  refine bh ?_
  refine rPe T hS [] [(50,B (decide (dN < (lN l_))))] fun a hS=>?_
  refine aI hS (b:=decide (dN < (lN l_))) kr (fun hb=>?_) fun hb=>?_
  ·replace hm:=hm.1 hb
   refine aO (bh ?_)
   refine aQ ?_
   refine br ?_
   refine oPe T hS 2 [50] [(53,Sl a2 l_ c2),(54,I dN)] fun a hS=>?_
   obtain ⟨hq,hm⟩:=hm
   refine op1 (index (e:=77) (k:=.i64) T hS kr kr kr kr h116 kr kr hq.1 hq.2 ?_)
   intro Hv a h119 hS
   refine op1 (eS T hS kr kr kr h119 kr kr ?_)
   intro v120 a hv hS
   subst hv
   refine eM T hS ⟨[(0,Sl a1 objects c1),(1,Sl a2 l_ c2),(11,I dN),(12,Pt 13 0)],[(13,(77,[I ((gi l_ dN).az),I (((gi l_ dN).aN).bm),I (((gi l_ dN).aN).ah),I (((gi l_ dN).aN).N)]))]⟩ fun Z a DP Bb hS hE hr=>?_
   replace hO:=hO.m2 hE
   replace h115:=h115.m1 hE
   replace h116:=h116.m1 hE
   clear hE hr
   refine bh ?_
   refine rPe T hS [] [(66,B ((decide (((gi l_ dN).az) < 0)) || (decide (((gi l_ dN).az)≥(lN objects)))))] (sp:=[60]) fun a hS=>?_
   refine aI hS (b:=((decide (((gi l_ dN).az) < 0)) || (decide (((gi l_ dN).az)≥(lN objects))))) kr (fun hb=>?_) fun hb=>?_
   ·replace hm:=hm.1 hb
    refine rP T hS ⟨[(4,I dN),(5,I 2)],[]⟩ fun a hS=>?_
    refine ba ?_
    exact fin T hS hO (fun c=>c) rfl (r:=[.int .i64 dN,.int .i64 2]) kr (fun X' hM hC=>⟨(dN,2),hm,rfl⟩)
   replace hm:=hm.2 hb
   refine aO (bh ?_)
   refine cb (fun a w=>∃ (Z:Nat->Nat) (X:Nat->Nat) (iJ:Bool),VC28_J3 objects l_ Q I1 μ1 dN iJ/\St Tryz.f28.ntmps ⟨[(0,Sl a1 objects c1),(1,Sl a2 l_ c2),(11,I dN),(12,Pt 13 0),(79,B iJ)],[(13,(77,[I ((gi l_ dN).az),I (((gi l_ dN).aN).bm),I (((gi l_ dN).aN).ah),I (((gi l_ dN).aN).N)]))]⟩ Z a w X/\Old w0 X0 w X/\RS aC w X a1 objects c1/\RS bP w X a2 l_ c2) ?_ ?_
   ·refine hJ [13] mixed hS ?_
    intro tv wS hS hE hD hH
    replace hO:=hO.m2 hE
    replace h115:=h115.m1 hE
    replace h116:=h116.m1 hE
    refine tke T [0,1,2,3,4] [13] hS hH #[true,true,true,true,true,false,false,false,false,false,false,false] 7 [] [(72,B ((((gi l_ dN).aN).bm) == 2))] fun a hS=>?_
    rcases bft ((((gi l_ dN).aN).bm) == 2) with hb | hb
    ·replace hS:=hS.lit (t:=72) kr hb
     replace hm:=hm.1 hb
     refine tke T [5,6,8,9] [13] hS hH #[true,true,true,true,true,true,true,false,true,true,false,false] 3 [] [(73,Sl a2 l_ c2),(74,I dN),(77,I ((gi l_ dN).az))] fun a hS=>?_
     obtain ⟨hq,hm⟩:=hm
     refine only 7 kr (by rfl) (call hS kr kr hb59 kr (fun _ _=>rfl) (Lt _ _ l_ dN a2 c2 hq h116) ?_)
     intro v138 a tu wQ hE hp hS
     replace hO:=hO.m2 hE
     replace hD:=hD.ev hE rfl
     replace h115:=h115.m1 hE
     replace h116:=h116.m1 hE
     obtain ⟨xF,hr⟩:∃ r,fL l_ dN=r:=⟨_,rfl⟩
     replace hm:=hm xF hr
     rw [hr] at hp
     clear hr
     subst hp
     replace hS:=hS.sle [] [(75,I xF)]
     refine da (bO.of hS (bks:=[13]) kr hD) ?_
     intro hH
     refine tke T [10,11] [13] hS hH (tts 12) 0 [72,73,74,77,75] [(79,B (xF != ((gi l_ dN).az)))] fun a hS=>?_
     refine aY kr ?_
     replace hS:=hS.sle [] []
     exact ⟨Z,_,(xF != ((gi l_ dN).az)),hm,hS.sl _,hO,h115,h116⟩
    replace hS:=hS.lit (t:=72) kr hb
    replace hm:=hm.2 hb
    refine tke T [5,6,8,7,9,10,11] [13] hS hH (tts 12) 0 [72] [(79,B false)] fun a hS=>?_
    refine aY kr ?_
    replace hS:=hS.sle [] []
    exact ⟨Z,_,false,hm,hS.sl _,hO,h115,h116⟩
   rintro a H3 ⟨Z,Ni,iJ,hm,hS,hO,h121,h122⟩
   unfold VC28_J3 at hm
   refine aI hS (b:=iJ) kr (fun hb=>?_) fun hb=>?_
   ·replace hm:=hm.1 hb
    refine rP T hS ⟨[(4,I dN),(5,I 32)],[]⟩ fun a hS=>?_
    refine ba ?_
    exact fin T hS hO (fun c=>c) rfl (r:=[.int .i64 dN,.int .i64 32]) kr (fun X' hM hC=>⟨(dN,32),hm,rfl⟩)
   replace hm:=hm.2 hb
   refine aO ?_
   refine cb (fun a w=>∃ (Z:Nat->Nat) (X:Nat->Nat) (nz:Bool),VC28_J4 Q I1 μ1 dN nz/\St Tryz.f28.ntmps ⟨[(0,Sl a1 objects c1),(1,Sl a2 l_ c2),(11,I dN),(96,B nz)],[]⟩ Z a w X/\Old w0 X0 w X/\RS aC w X a1 objects c1/\RS bP w X a2 l_ c2) ?_ ?_
   ·refine hJ [13] mixed hS ?_
    intro tw Bd hS hE hD hH
    replace hO:=hO.m2 hE
    replace h121:=h121.m1 hE
    replace h122:=h122.m1 hE
    refine tke T [0,1,2,3,4] [13] hS hH #[true,true,true,true,true,false,false,false,false,false,false,false,false,false,false,false] 11 [] [(85,B ((((gi l_ dN).aN).bm) == 1))] fun a hS=>?_
    rcases bft ((((gi l_ dN).aN).bm) == 1) with hb | hb
    ·replace hS:=hS.lit (t:=85) kr hb
     replace hm:=hm.1 hb
     refine tke T [5,8,9,6,10,7] [13] hS hH #[true,true,true,true,true,true,true,true,true,true,true,false,false,false,false,false] 5 [12] [(88,I (((gi l_ dN).aN).N)),(89,Sl a1 objects c1),(91,I ((gi l_ dN).az))] fun a hS=>?_
     obtain ⟨hq,hm⟩:=hm
     refine dg (e:=48) (k:=.i64) T 11 hS kr kr kr (by rfl) kr hH kr kr h121 kr kr hq.1 hq.2 ?_
     intro Nu a h130 hS
     have CD:=h130.here
     refine dt (off:=1) (fsz:=1) (ft:=3) (TF:=tI) (y:=(gi objects ((gi l_ dN).az)).aA) 12 T hS kr kr kr (by rfl) kr hH kr h130 kr kr kr (fun cs h=>nx h) ?_
     intro Ka a h132 fO hS
     have vU:=CD
     rw [← fO] at vU
     clear fO
     refine dQ T 13 hS kr kr kr (by rfl) kr hH kr h132 vU rfl kr ?_
     intro v133 a hv hS
     cases hv
     refine tke T [14,15] [13] hS hH (tts 16) 0 [85,88,89,91,92,93,94] [(96,B (decide ((((gi l_ dN).aN).N)≥((gi objects ((gi l_ dN).az)).aA))))] fun a hS=>?_
     refine aY kr ?_
     replace hS:=hS.sl ⟨[(0,Sl a1 objects c1),(1,Sl a2 l_ c2),(11,I dN),(96,B (decide ((((gi l_ dN).aN).N)≥((gi objects ((gi l_ dN).az)).aA))))],[]⟩
     exact ⟨Z,_,decide ((((gi l_ dN).aN).N)≥((gi objects ((gi l_ dN).az)).aA)),hm,hS.sl _,hO,h121,h122⟩
    replace hS:=hS.lit (t:=85) kr hb
    replace hm:=hm.2 hb
    refine tke T [5,8,9,6,10,7,11,12,13,14,15] [13] hS hH (tts 16) 0 [12,85] [(96,B false)] fun a hS=>?_
    refine aY kr ?_
    replace hS:=hS.sl ⟨[(0,Sl a1 objects c1),(1,Sl a2 l_ c2),(11,I dN),(96,B false)],[]⟩
    exact ⟨Z,_,false,hm,hS.sl _,hO,h121,h122⟩
   rintro a DR ⟨Z,Dd,nz,hm,hS,hO,h124,h125⟩
   unfold VC28_J4 at hm
   refine aI hS (b:=nz) kr (fun hb=>?_) fun hb=>?_
   ·replace hm:=hm.1 hb
    refine rPe T hS [0,1,11,96] [(4,I dN),(5,I 31)] fun a hS=>?_
    refine ba ?_
    exact fin T hS hO (fun c=>c) rfl (r:=[.int .i64 dN,.int .i64 31]) kr (fun X' hM hC=>⟨(dN,31),hm,rfl⟩)
   replace hm:=hm.2 hb
   refine aO ?_
   refine region (ePe T hS [96] [(11,I (wR (dN+1)))] fun a hS=>?_)
   exact ⟨wR (dN+1),⟨Z,_,hm.1,hS.sl _,hO,h124,h125⟩,hm.2⟩
  replace hm:=hm.2 hb
  refine cu (by rfl) ?_
  exact ⟨Z,_,hm,hS.sl _,hO,h116⟩
 rintro a F0 ⟨Z,yl,hm,hS,hO,h114⟩
 unfold VC28_J2 at hm
 refine rPe T hS [1] [(4,I (lN l_)),(5,I 0)] fun a hS=>?_
 refine ba ?_
 exact fin T hS hO (fun c=>c) rfl (r:=[.int .i64 (lN l_),.int .i64 0]) kr (fun X' hM hC=>⟨((lN l_),0),hm,rfl⟩)
theorem C28 (Gv:S45) (Gu:S50) (Gs:S58) (Lt:S59) (v:∀ (objects:List ao) (l_:List aK),k5 objects l_->VC28 objects l_ (fun r=>r=dE objects l_)):S28:=by
 intro w X objects l_ a1 c1 a2 c2   hp h1 h2
 refine (W28 Gv Gu Gs Lt w X objects l_ a1 c1 a2 c2   _ (v objects l_ hp) h1 h2).mono ?_
 rintro _ _ _ _ ⟨r,rfl,h⟩
 exact h
theorem W48 (w0) (X0) (i_:Int) (aq:ak) (ax:Int) (a1) (c1) (a2) (c2) (b1) (i1) (b2) (i2) (Q:Bool->Prop) (hm:VC48 i_ aq ax Q) (h1:RS aC w0 X0 a1 aq.ae c1) (h2:RS aL w0 X0 a2 aq.al c2) (fF:Cell w0 X0 b1 i1 25 [.slice a1 aq.ae.length c1,.slice a2 aq.al.length c2]) (g8:Cell w0 X0 b2 i2 3 [.int .i64 ax]) (hA:dS [i1,i2]) :
  Ret Tryz.prog 48 #[.int .i64 i_,.pointer (some ⟨b1,0,none⟩),.pointer (some ⟨b2,0,none⟩)] (pR [i1,i2]) w0 X0 (fun w X' v=>∃ r,Q r/\v=.bool r/\Cell w X' b1 i1 25 [.slice a1 aq.ae.length c1,.slice a2 aq.al.length c2]/\Cell w X' b2 i2 3 [.int .i64 ax]):=by
 unfold VC48 at hm
 replace hm:=hm (h1.sm kr)
 replace hm:=hm (h2.sm kr)
 refine fT Tryz.func48 rfl (dH [(i1,901),(i2,902)]) (fun id=>(bif Nat.beq id 901 then b1 else (bif Nat.beq id 902 then b2 else 0))) (args:=[I i_,Pt 901 0,Pt 902 0]) (bxs:=[(901,(25,[Sl a1 aq.ae c1,Sl a2 aq.al c2])),(902,(3,[I ax]))]) kr rfl (bq.cons kr (fF.map (bQ 0 hA.1 rfl)) (bq.cons kr (g8.map (bQ 1 hA.1 rfl)) bq.nil)) (fJ (fun q hq=>(hA.2 q.1 (List.mem_map.2 ⟨q,hq,rfl⟩)).1)) ?_
 intro a hS hO hM
 have hP:Pin [(901,b1),(902,b2)] (fun id=>(bif Nat.beq id 901 then b1 else (bif Nat.beq id 902 then b2 else 0))):=by intro q hq; simp at hq; rcases hq with rfl | rfl <;> rfl
 generalize (fun id=>(bif Nat.beq id 901 then b1 else (bif Nat.beq id 902 then b2 else 0)))=Z at hS hP
 clear fF g8
 replace h1:=h1.m0 hM
 replace h2:=h2.m0 hM
 refine rPe T hS [] [] fun a hS=>?_
 refine dB [901,902] mixed hS ?_
 intro oX pE hS hE hD hH
 replace hO:=hO.m2 hE
 replace h1:=h1.m1 hE
 replace h2:=h2.m1 hE
 refine tke T [0,2,6,1] [901,902] hS hH #[true,true,true,false,false,false,true,false,false] 5 [0,1,2] [(6,Sl a2 aq.al c2),(7,I i_),(11,I ax)] fun a hS=>?_
 obtain ⟨hq,hm⟩:=hm
 refine dg (e:=63) (k:=.i64) T 3 hS kr kr kr (by rfl) kr hH kr kr h2 kr kr hq.1 hq.2 ?_
 intro uP a h104 hS
 have vX:=h104.here
 refine dt (off:=0) (fsz:=1) (ft:=3) (TF:=tI) (y:=(gi aq.al i_).az) 4 T hS kr kr kr (by rfl) kr hH kr h104 kr kr kr (fun cs h=>kE h) ?_
 intro yx a h106 fO hS
 have rr:=vX
 rw [← fO] at rr
 clear fO
 refine dQ T 5 hS kr kr kr (by rfl) kr hH kr h106 rr rfl kr ?_
 intro v107 a hv hS
 cases hv
 refine tke T [7,8] [901,902] hS hH (tts 9) 0 [6,7,11,8,9,10] [(4,B (((gi aq.al i_).az) == ax))] fun a hS=>?_
 refine aY kr ?_
 replace hS:=hS.sle [] []
 refine ba ?_
 exact g9 T hS hO (fun c h=>bZ kr h) (fun c h=>b0 (l:=[(i1,901),(i2,902)]) h) (bT [(i1,901),(i2,902)]) rfl (r:=[.bool (((gi aq.al i_).az) == ax)]) kr (fun X' hM hC=>⟨(((gi aq.al i_).az) == ax),hm,rfl,((hS.cell (id:=901) (t:=25) (cs:=[Sl a1 aq.ae c1,Sl a2 aq.al c2]) kr).out (f:=(bT [(i1,901),(i2,902)])) hC kr kr (hP.at 0 rfl)),((hS.cell (id:=902) (t:=3) (cs:=[I ax]) kr).out (f:=(bT [(i1,901),(i2,902)])) hC kr kr (hP.at 1 rfl))⟩)
theorem C48 (v:∀ (i_:Int) (aq:ak) (ax:Int),yP i_ aq ax->VC48 i_ aq ax (fun r=>r=eX i_ aq ax)):S48:=by
 intro w X i_ aq ax a1 c1 a2 c2  b1 i1 b2 i2 hp h1 h2 fF g8 hA
 refine (W48 w X i_ aq ax a1 c1 a2 c2  b1 i1 b2 i2 _ (v i_ aq ax hp) h1 h2 fF g8 hA).mono ?_
 rintro _ _ _ _ ⟨r,rfl,h⟩
 exact h
theorem W46_48 (Lz:S48) (w0) (X0) (l_:List aw) (aq:ak) (ax:Int) (a1) (c1) (a2) (c2) (a3) (c3) (b1) (i1) (b2) (i2) (Q:(List aw)->Prop) (hm:VC46_48 l_ aq ax Q) (h1:RS aR w0 X0 a1 l_ c1) (h2:RS aC w0 X0 a2 aq.ae c2) (h3:RS aL w0 X0 a3 aq.al c3) (fF:Cell w0 X0 b1 i1 25 [.slice a2 aq.ae.length c2,.slice a3 aq.al.length c3]) (g8:Cell w0 X0 b2 i2 3 [.int .i64 ax]) (hA:dS [i1,i2]) :
  Ret Tryz.prog 46 #[.slice a1 l_.length c1,.func (.func 48) #[] #[.pointer (some ⟨b1,0,none⟩),.pointer (some ⟨b2,0,none⟩)]] (pR [i1,i2]) w0 X0 (fun w X' v=>∃ r,Q r/\∃ cQ cN,v=.slice cQ r.length cN/\RS aR w X' cQ r cN/\Cell w X' b1 i1 25 [.slice a2 aq.ae.length c2,.slice a3 aq.al.length c3]/\Cell w X' b2 i2 3 [.int .i64 ax]):=by
 unfold VC46_48 at hm
 replace hm:=hm (h1.sm kr)
 replace hm:=hm (h2.sm kr)
 replace hm:=hm (h3.sm kr)
 refine fT Tryz.func46 rfl (dH [(i1,901),(i2,902)]) (fun id=>(bif Nat.beq id 901 then b1 else (bif Nat.beq id 902 then b2 else 0))) (args:=[Sl a1 l_ c1,.f (.func 48) [] [.p 901 0,.p 902 0]]) (bxs:=[(901,(25,[Sl a2 aq.ae c2,Sl a3 aq.al c3])),(902,(3,[I ax]))]) kr rfl (bq.cons kr (fF.map (bQ 0 hA.1 rfl)) (bq.cons kr (g8.map (bQ 1 hA.1 rfl)) bq.nil)) (fJ (fun q hq=>(hA.2 q.1 (List.mem_map.2 ⟨q,hq,rfl⟩)).1)) ?_
 intro a hS hO hM
 have hP:Pin [(901,b1),(902,b2)] (fun id=>(bif Nat.beq id 901 then b1 else (bif Nat.beq id 902 then b2 else 0))):=by intro q hq; simp at hq; rcases hq with rfl | rfl <;> rfl
 generalize (fun id=>(bif Nat.beq id 901 then b1 else (bif Nat.beq id 902 then b2 else 0)))=Z at hS hP
 clear fF g8
 replace h1:=h1.m0 hM
 replace h2:=h2.m0 hM
 replace h3:=h3.m0 hM
 refine rPe T hS [] [] fun a hS=>?_
 refine rPe T hS [] [(5,V (.slice none 0 0))] fun a hS=>?_
 refine cb (fun a w=>∃ (Z:Nat->Nat) (X:Nat->Nat) (bD:List aw) (dw:Option Addr) (dv:Nat),VC46_48_J1 Q bD/\St Tryz.f46.ntmps ⟨[(5,Sl dw bD dv)],[(901,(25,[Sl a2 aq.ae c2,Sl a3 aq.al c3])),(902,(3,[I ax]))]⟩ Z a w X/\gq (dH [(i1,901),(i2,902)]) w0 X0 w X/\Pin [(901,b1),(902,b2)] Z/\OS aR 61 w X 1005 dw bD dv/\RS aC w X a2 aq.ae c2/\RS aL w X a3 aq.al c3) ?_ ?_
 ·refine rPe T hS [0] [(8,Sl a1 l_ c1),(9,I (lN l_)),(10,I 0)] fun a hS=>?_
  refine aQ ?_
  obtain ⟨I1,μ1,cJ,hm⟩:=hm
  refine cH (σ:=(List aw) × Int) (fun s a w=>∃ Z X gR gQ,I1 s.1 s.2/\St Tryz.f46.ntmps ⟨[(1,.f (.func 48) [] [.p 901 0,.p 902 0]),(5,Sl gR s.1 gQ),(8,Sl a1 l_ c1),(9,I (lN l_)),(10,I s.2)],[(901,(25,[Sl a2 aq.ae c2,Sl a3 aq.al c3])),(902,(3,[I ax]))]⟩ Z a w X/\gq (dH [(i1,901),(i2,902)]) w0 X0 w X/\Pin [(901,b1),(902,b2)] Z/\OS aR 61 w X 1005 gR s.1 gQ/\RS aR w X a1 l_ c1/\RS aC w X a2 aq.ae c2/\RS aL w X a3 aq.al c3) (fun s=>μ1 s.1 s.2) (⟨[],0⟩) ?_ ?_
  ·exact ⟨Z,_,none,0,cJ,hS.sl _,hO,hP,(OS.nil _ _ _ _ _),h1,h2,h3⟩
  rintro ⟨c7,iO⟩ a uU ⟨Z,Ba,gR,gQ,hI,hS,hO,hP,h112,h113,h115,h116⟩
  replace hm:=hm c7 iO hI
  clear hI cJ
  refine rPe T hS [] [(11,B (decide (iO < (lN l_))))] fun a hS=>?_
  refine bh ?_
  refine aI hS (b:=decide (iO < (lN l_))) kr (fun hb=>?_) fun hb=>?_
  ·replace hm:=hm.1 hb
   refine aO ?_
   refine cb (fun a w=>∃ (Z:Nat->Nat) (X:Nat->Nat) (dN:List aw) (il:Option Addr) (ik:Nat),VC46_48_J2 I1 μ1 c7 iO dN/\St Tryz.f46.ntmps ⟨[(1,.f (.func 48) [] [.p 901 0,.p 902 0]),(5,Sl il dN ik),(8,Sl a1 l_ c1),(9,I (lN l_)),(10,I iO)],[(901,(25,[Sl a2 aq.ae c2,Sl a3 aq.al c3])),(902,(3,[I ax]))]⟩ Z a w X/\gq (dH [(i1,901),(i2,902)]) w0 X0 w X/\Pin [(901,b1),(902,b2)] Z/\OS aR 61 w X 1005 il dN ik/\RS aR w X a1 l_ c1/\RS aC w X a2 aq.ae c2/\RS aL w X a3 aq.al c3) ?_ ?_
   ·refine aQ ?_
    refine br ?_
    refine oPe T hS 1 [11] [(12,I iO)] fun a hS=>?_
    obtain ⟨hq,hm⟩:=hm
    refine op1 (index (e:=61) (k:=.i64) T hS kr kr kr kr h113 kr kr hq.1 hq.2 ?_)
    intro Ht a h125 hS
    refine op1 (eS T hS kr kr kr h125 kr kr ?_)
    intro v126 a hv hS
    subst hv
    refine eM T hS ⟨[(1,.f (.func 48) [] [.p 901 0,.p 902 0]),(5,Sl gR c7 gQ),(6,I iO),(7,Pt 8 0),(8,Sl a1 l_ c1),(9,I (lN l_)),(10,I iO)],[(8,(61,(cE (gi l_ iO)))),(901,(25,[Sl a2 aq.ae c2,Sl a3 aq.al c3])),(902,(3,[I ax]))]⟩ fun Z a r6 sd hS hE hr=>?_
    replace hO:=hO.m2 hE
    replace h112:=h112.m2 hE
    replace h113:=h113.m1 hE
    replace h115:=h115.m1 hE
    replace h116:=h116.m1 hE
    replace hP:=hP.mv hr kr
    clear hE hr
    refine br ?_
    refine oPe T hS 2 [6] [(15,.f (.func 48) [] [.p 901 0,.p 902 0]),(16,I iO)] fun a hS=>?_
    obtain ⟨hq,hm⟩:=hm
    refine op1 (ko (fi:=[]) (cp:=[.p 901 0,.p 902 0]) hS kr kr hb48 kr kr (Lz _ _ iO (⟨aq.ae,aq.al⟩:ak) ax a2 c2 a3 c3 (Z 901) 901 (Z 902) 902 hq h115 h116 (hS.cell (id:=901) (t:=25) (cs:=[Sl a2 aq.ae c2,Sl a3 aq.al c3]) kr) (hS.cell (id:=902) (t:=3) (cs:=[I ax]) kr) ⟨by decide,by decide⟩) ?_)
    intro v127 a r8 se hE hp hS
    replace hO:=hO.m2 hE
    replace h112:=h112.m2 hE
    replace h113:=h113.m1 hE
    replace h115:=h115.m1 hE
    replace h116:=h116.m1 hE
    obtain ⟨hp,Fu,Ft⟩:=hp
    obtain ⟨tQ,hr⟩:∃ r,eX iO (⟨aq.ae,aq.al⟩:ak) ax=r:=⟨_,rfl⟩
    replace hm:=hm tQ hr
    rw [hr] at hp
    clear hr
    subst hp
    replace hS:=hS.cI (id:=901) (t:=25) (cs:=[Sl a2 aq.ae c2,Sl a3 aq.al c3]) kr Fu
    replace hS:=hS.cI (id:=902) (t:=3) (cs:=[I ax]) kr Ft
    clear Fu Ft
    refine iy ?_
    refine aI hS (b:=tQ) kr (fun hb=>?_) fun hb=>?_
    ·replace hm:=hm.1 hb
     refine region ?_
     refine oP T hS 2 ⟨[(1,.f (.func 48) [] [.p 901 0,.p 902 0]),(5,Sl gR c7 gQ),(8,Sl a1 l_ c1),(9,I (lN l_)),(10,I iO),(18,Sl gR c7 gQ),(19,V (.agg #[.int .i64 ((gi l_ iO).bm),.int .i64 ((gi l_ iO).ah),.int .i64 ((gi l_ iO).N)]))],[(901,(25,[Sl a2 aq.ae c2,Sl a3 aq.al c3])),(902,(3,[I ax]))]⟩ fun a hS=>?_
     refine op1 (lit (E:=61) (col:=0) (T:=aR) (vals:=[.agg #[.int .i64 ((gi l_ iO).bm),.int .i64 ((gi l_ iO).ah),.int .i64 ((gi l_ iO).N)]]) (ys:=[(gi l_ iO)]) T hS kr kr kr kr (by exact ⟨rfl,trivial⟩) rfl kr kr kr kr ?_)
     intro b133 a z1 ym hE h136 hN hS
     clear hN
     replace hO:=hO.m2 hE
     replace h112:=h112.m2 hE
     replace h113:=h113.m1 hE
     replace h115:=h115.m1 hE
     replace h116:=h116.m1 hE
     replace h136:=h136.rs0
     obtain ⟨hq,hm⟩:=hm
     obtain ⟨news,hN⟩:=h136.src
     refine op1 (append (E:=61) (T:=aR) (col:=1005) (xs:=c7) T hS kr kr kr kr h112 hN kr kr kr kr hq ?_)
     intro mG mE a F1 Ho hE h139 hS
     clear hq hN
     clear h112
     replace hO:=hO.m2 hE
     replace h113:=h113.m1 hE
     replace h115:=h115.m1 hE
     replace h116:=h116.m1 hE
     replace h136:=h136.m1 hE
     refine ePe T hS [19,20,21] [(5,Sl mG (c7++[(gi l_ iO)]) mE)] fun a hS=>?_
     exact ⟨Z,_,c7++[(gi l_ iO)],mG,mE,hm,hS.sl _,hO,hP,h139,h113,h115,h116⟩
    replace hm:=hm.2 hb
    refine aO ?_
    exact ⟨Z,_,c7,gR,gQ,hm,hS.sl _,hO,hP,h112,h113,h115,h116⟩
   rintro a DN ⟨Z,Rs,dN,il,ik,hm,hS,hO,hP,h120,h121,h122,h123⟩
   unfold VC46_48_J2 at hm
   refine region (ePe T hS [] [(10,I (wR (iO+1)))] fun a hS=>?_)
   exact ⟨⟨dN,wR (iO+1)⟩,⟨Z,_,il,ik,hm.1,hS.sl _,hO,hP,h120,h121,h122,h123⟩,hm.2⟩
  replace hm:=hm.2 hb
  refine cu (by rfl) ?_
  exact ⟨Z,_,c7,gR,gQ,hm,hS.sl _,hO,hP,h112,h115,h116⟩
 rintro a F0 ⟨Z,yl,bD,dw,dv,hm,hS,hO,hP,h104,h105,h106⟩
 unfold VC46_48_J1 at hm
 refine rPe T hS [5] [(4,Sl dw bD dv)] fun a hS=>?_
 refine ba ?_
 obtain ⟨n2,hE,hF⟩:=h104.freeze (by decide)
 replace hS:=hS.ev hE (c6 kr)
 replace hO:=hO.m2 hE
 replace h105:=h105.m1 hE
 replace h106:=h106.m1 hE
 have h108:=hF; clear hE hF
 exact g9 T hS hO (fun c h=>bZ kr h) (fun c h=>b0 (l:=[(i1,901),(i2,902)]) h) (bT [(i1,901),(i2,902)]) rfl (r:=[.slice dw bD.length dv]) kr (fun X' hM hC=>⟨bD,hm,dw,dv,rfl,h108.m0 hM,((hS.cell (id:=901) (t:=25) (cs:=[Sl a2 aq.ae c2,Sl a3 aq.al c3]) kr).out (f:=(bT [(i1,901),(i2,902)])) hC kr kr (hP.at 0 rfl)),((hS.cell (id:=902) (t:=3) (cs:=[I ax]) kr).out (f:=(bT [(i1,901),(i2,902)])) hC kr kr (hP.at 1 rfl))⟩)
theorem C46_48 (Lz:S48) (v:∀ (l_:List aw) (aq:ak) (ax:Int),yR l_ aq ax->VC46_48 l_ aq ax (fun r=>r=bS l_ aq ax)):S46_48:=by
 intro w X l_ aq ax a1 c1 a2 c2 a3 c3  b1 i1 b2 i2 hp h1 h2 h3 fF g8 hA
 refine (W46_48 Lz w X l_ aq ax a1 c1 a2 c2 a3 c3  b1 i1 b2 i2 _ (v l_ aq ax hp) h1 h2 h3 fF g8 hA).mono ?_
 rintro _ _ _ _ ⟨r,rfl,h⟩
 exact h
theorem W17 (sb:S23) (xX:S46_48) (Cf:S47) (Ly:S49) (w0) (X0) (h_:ak) (k_:Int) (a1) (c1) (a2) (c2) (Q:fv->Prop) (hm:VC17 h_ k_ Q) (h1:RS aC w0 X0 a1 h_.ae c1) (h2:RS aL w0 X0 a2 h_.al c2) :
  Ret Tryz.prog 17 #[.agg #[.slice a1 h_.ae.length c1,.slice a2 h_.al.length c2],.int .i64 k_] aM w0 X0 (fun w X' v=>∃ r,Q r/\∃ cQ cN jg jf,v=.agg #[.int .i64 r.az.au,.int .i64 r.az.aA,.int .i64 r.az.aH,.slice cQ r.az.Rows.length cN,.slice jg r.al.length jf]/\RS aB w X' cQ r.az.Rows cN/\RS aR w X' jg r.al jf):=by
 unfold VC17 at hm
 replace hm:=hm (h1.sm kr)
 replace hm:=hm (h2.sm kr)
 refine enter Tryz.func17 rfl (vals:=[.agg #[.slice a1 h_.ae.length c1,.slice a2 h_.al.length c2],.int .i64 k_]) kr ?_
 intro Z a hS hO hM
 replace h1:=h1.m0 hM
 replace h2:=h2.m0 hM
 refine rM T hS ⟨[(2,Pt 3 0),(3,Pt 4 0),(4,Pt 5 0)],[(3,(25,[Sl a1 h_.ae c1,Sl a2 h_.al c2])),(4,(3,[I k_])),(5,(51,[I 0,I 0,I 0,V (.slice none 0 0),V (.slice none 0 0)]))]⟩ fun Z a r6 sd hS hE hr=>?_
 replace hO:=hO.m2 hE
 replace h1:=h1.m1 hE
 replace h2:=h2.m1 hE
 clear hE hr
 refine bh ?_
 refine br ?_
 refine oPe T hS 1 [] [(10,V (.agg #[.slice a1 h_.ae.length c1,.slice a2 h_.al.length c2]))] fun a hS=>?_
 obtain ⟨hq,hm⟩:=hm
 refine op1 (call hS kr kr hb23 kr (fun _ _=>rfl) (sb _ _ h_ a1 c1 a2 c2 hq h1 h2) ?_)
 intro v101 a fH fK hE hp hS
 replace hO:=hO.m2 hE
 replace h1:=h1.m1 hE
 replace h2:=h2.m1 hE
 obtain ⟨ay,hr⟩:∃ r,aD h_=r:=⟨_,rfl⟩
 replace hm:=hm ay hr
 rw [hr] at hp
 clear hr
 subst hp
 refine ePe T hS [10,11] [(6,I ay.2)] fun a hS=>?_
 refine rPe T hS [6] [(26,B (((ay.2 != 0) || (decide (k_ < 0))) || (decide (k_≥(lN h_.ae)))))] (sp:=[16,20]) fun a hS=>?_
 refine aI hS (b:=(((ay.2 != 0) || (decide (k_ < 0))) || (decide (k_≥(lN h_.ae))))) kr (fun hb=>?_) fun hb=>?_
 ·replace hm:=hm.1 hb
  refine rM T hS ⟨[(4,Pt 5 0)],[(5,(51,[I 0,I 0,I 0,V (.slice none 0 0),V (.slice none 0 0)]))]⟩ fun Z a nA mh hS hE hr=>?_
  replace hO:=hO.m2 hE
  clear hE hr
  refine ba ?_
  exact fin T hS hO (fun c=>c) rfl (r:=[.agg #[.int .i64 0,.int .i64 0,.int .i64 0,.slice none 0 0,.slice none 0 0]]) kr (fun X' hM hC=>⟨(⟨(⟨0,0,0,[]⟩:ao),[]⟩:fv),hm,none,0,none,0,rfl,RS.empty _ _ _,RS.empty _ _ _⟩)
 replace hm:=hm.2 hb
 refine aO ?_
 refine br ?_
 refine oPe T hS 1 [26] [(28,V (.agg #[.slice a1 h_.ae.length c1,.slice a2 h_.al.length c2]))] fun a hS=>?_
 obtain ⟨hq,hm⟩:=hm
 refine op1 (call hS kr kr hb47 kr (fun _ _=>rfl) (Cf _ _ h_ a1 c1 a2 c2 hq h1 h2) ?_)
 intro v107 a F4 Dh hE hp hS
 replace hO:=hO.m2 hE
 replace h1:=h1.m1 hE
 replace h2:=h2.m1 hE
 obtain ⟨jb,iZ,hp,h113⟩:=hp
 obtain ⟨fB,hr⟩:∃ r,bo h_=r:=⟨_,rfl⟩
 replace hm:=hm fB hr
 rw [hr] at hp h113
 clear hr
 subst hp
 replace hm:=hm (h113.sm kr)
 refine oPe T hS 1 [28] [(30,.f (.func 48) [] [.p 3 0,.p 4 0])] fun a hS=>?_
 obtain ⟨hq,hm⟩:=hm
 refine op1 (l9 hS kr kr hb46 kr (xX _ _ fB h_ k_ jb iZ a1 c1 a2 c2 (Z 3) 3 (Z 4) 4 hq h113 h1 h2 (hS.cell (id:=3) (t:=25) (cs:=[Sl a1 h_.ae c1,Sl a2 h_.al c2]) kr) (hS.cell (id:=4) (t:=3) (cs:=[I k_]) kr) ⟨by decide,by decide⟩) ?_)
 intro v114 a pY uM hE hp hS
 replace hO:=hO.m2 hE
 replace h1:=h1.m1 hE
 replace h2:=h2.m1 hE
 replace h113:=h113.m1 hE
 obtain ⟨il,ik,hp,h120,ta,vO⟩:=hp
 obtain ⟨eK,hr⟩:∃ r,bS fB h_ k_=r:=⟨_,rfl⟩
 replace hm:=hm eK hr
 rw [hr] at hp h120
 clear hr
 subst hp
 replace hm:=hm (h120.sm kr)
 replace hS:=hS.cI (id:=3) (t:=25) (cs:=[Sl a1 h_.ae c1,Sl a2 h_.al c2]) kr ta
 replace hS:=hS.cI (id:=4) (t:=3) (cs:=[I k_]) kr vO
 clear ta vO
 refine ePe T hS [29,30,31] [(7,Sl il eK ik)] fun a hS=>?_
 refine br ?_
 refine oP T hS 3 ⟨[(4,Pt 5 0),(7,Sl il eK ik),(33,Sl a1 h_.ae c1),(34,I k_)],[(5,(51,[I 0,I 0,I 0,V (.slice none 0 0),V (.slice none 0 0)]))]⟩ fun a hS=>?_
 obtain ⟨hq,hm⟩:=hm
 refine op1 (index (e:=48) (k:=.i64) T hS kr kr kr kr h1 kr kr hq.1 hq.2 ?_)
 intro ES a h124 hS
 refine op1 (eS T hS kr kr kr h124 kr kr ?_)
 intro v125 a hv hS
 obtain ⟨wP,wE,hv,h128⟩:=hv
 subst hv
 replace hm:=hm (h128.sm kr)
 refine eM T hS ⟨[(4,Pt 5 0),(7,Sl il eK ik),(8,Pt 9 0)],[(5,(51,[I 0,I 0,I 0,V (.slice none 0 0),V (.slice none 0 0)])),(9,(48,(cO (gi h_.ae k_) wP wE)))]⟩ fun Z a zZ Bc hS hE hr=>?_
 replace hO:=hO.m2 hE
 replace h120:=h120.m1 hE
 replace h128:=h128.m1 hE
 clear hE hr
 refine br ?_
 refine oPe T hS 2 [] [(38,Sl wP ((gi h_.ae k_).Rows) wE)] fun a hS=>?_
 obtain ⟨hq,hm⟩:=hm
 refine op1 (call hS kr kr hb49 kr (fun _ _=>rfl) (Ly _ _ ((gi h_.ae k_).Rows) wP wE hq h128) ?_)
 intro v129 a uV De hE hp hS
 replace hO:=hO.m2 hE
 replace h120:=h120.m1 hE
 replace h128:=h128.m1 hE
 obtain ⟨pA,pw,hp,h135⟩:=hp
 obtain ⟨gP,hr⟩:∃ r,c8 ((gi h_.ae k_).Rows)=r:=⟨_,rfl⟩
 replace hm:=hm gP hr
 rw [hr] at hp h135
 clear hr
 subst hp
 replace hm:=hm (h135.sm kr)
 refine eM T hS ⟨[(4,Pt 5 0),(7,Sl il eK ik),(8,Pt 9 0)],[(5,(51,[I 0,I 0,I 0,V (.slice none 0 0),V (.slice none 0 0)])),(9,(48,[I ((gi h_.ae k_).au),I ((gi h_.ae k_).aA),I ((gi h_.ae k_).aH),Sl pA gP pw]))]⟩ fun Z a DQ Hn hS hE hr=>?_
 replace hO:=hO.m2 hE
 replace h120:=h120.m1 hE
 replace h135:=h135.m1 hE
 clear hE hr
 refine rM T hS ⟨[(4,Pt 5 0)],[(5,(51,[I ((gi h_.ae k_).au),I ((gi h_.ae k_).aA),I ((gi h_.ae k_).aH),Sl pA gP pw,Sl il eK ik]))]⟩ fun Z a tv wS hS hE hr=>?_
 replace hO:=hO.m2 hE
 replace h120:=h120.m1 hE
 replace h135:=h135.m1 hE
 clear hE hr
 refine ba ?_
 exact fin T hS hO (fun c=>c) rfl (r:=[.agg #[.int .i64 ((gi h_.ae k_).au),.int .i64 ((gi h_.ae k_).aA),.int .i64 ((gi h_.ae k_).aH),.slice pA gP.length pw,.slice il eK.length ik]]) kr (fun X' hM hC=>⟨(⟨(⟨(gi h_.ae k_).au,(gi h_.ae k_).aA,(gi h_.ae k_).aH,gP⟩:ao),eK⟩:fv),hm,pA,pw,il,ik,rfl,h135.m0 hM,h120.m0 hM⟩)
theorem C17 (sb:S23) (xX:S46_48) (Cf:S47) (Ly:S49) (v:∀ (h_:ak) (k_:Int),vv h_ k_->VC17 h_ k_ (fun r=>r=dG h_ k_)):S17:=by
 intro w X h_ k_ a1 c1 a2 c2   hp h1 h2
 refine (W17 sb xX Cf Ly w X h_ k_ a1 c1 a2 c2   _ (v h_ k_ hp) h1 h2).mono ?_
 rintro _ _ _ _ ⟨r,rfl,h⟩
 exact h
theorem W24 (sb:S23) (Cf:S47) (Lv:S56) (w0) (X0) (h_:ak) (a1) (c1) (a2) (c2) (Q:(List ab) × (List Int)->Prop) (hm:VC24 h_ Q) (h1:RS aC w0 X0 a1 h_.ae c1) (h2:RS aL w0 X0 a2 h_.al c2) :
  Ret Tryz.prog 24 #[.agg #[.slice a1 h_.ae.length c1,.slice a2 h_.al.length c2]] aM w0 X0 (fun w X' v=>∃ r,Q r/\∃ cQ cN jg jf,v=.tuple #[.slice cQ r.1.length cN,.slice jg r.2.length jf]/\RS ar w X' cQ r.1 cN/\RS tI w X' jg r.2 jf):=by
 unfold VC24 at hm
 replace hm:=hm (h1.sm kr)
 replace hm:=hm (h2.sm kr)
 refine enter Tryz.func24 rfl (vals:=[.agg #[.slice a1 h_.ae.length c1,.slice a2 h_.al.length c2]]) kr ?_
 intro Z a hS hO hM
 replace h1:=h1.m0 hM
 replace h2:=h2.m0 hM
 refine rM T hS ⟨[(1,Pt 2 0)],[(2,(25,[Sl a1 h_.ae c1,Sl a2 h_.al c2]))]⟩ fun Z a DJ Hl hS hE hr=>?_
 replace hO:=hO.m2 hE
 replace h1:=h1.m1 hE
 replace h2:=h2.m1 hE
 clear hE hr
 refine bh ?_
 refine br ?_
 refine oPe T hS 1 [] [(12,V (.agg #[.slice a1 h_.ae.length c1,.slice a2 h_.al.length c2]))] fun a hS=>?_
 obtain ⟨hq,hm⟩:=hm
 refine op1 (call hS kr kr hb23 kr (fun _ _=>rfl) (sb _ _ h_ a1 c1 a2 c2 hq h1 h2) ?_)
 intro v101 a fH fK hE hp hS
 replace hO:=hO.m2 hE
 replace h1:=h1.m1 hE
 replace h2:=h2.m1 hE
 obtain ⟨ay,hr⟩:∃ r,aD h_=r:=⟨_,rfl⟩
 replace hm:=hm ay hr
 rw [hr] at hp
 clear hr
 subst hp
 refine ePe T hS [12,13] [(5,I ay.2)] fun a hS=>?_
 refine rPe T hS [5] [(17,B (ay.2 != 0))] fun a hS=>?_
 refine aI hS (b:=(ay.2 != 0)) kr (fun hb=>?_) fun hb=>?_
 ·replace hm:=hm.1 hb
  refine rP T hS ⟨[(2,V (.slice none 0 0)),(3,V (.slice none 0 0))],[]⟩ fun a hS=>?_
  refine ba ?_
  exact fin T hS hO (fun c=>c) rfl (r:=[.slice none 0 0,.slice none 0 0]) kr (fun X' hM hC=>⟨([],[]),hm,none,0,none,0,rfl,RS.empty _ _ _,RS.empty _ _ _⟩)
 replace hm:=hm.2 hb
 refine aO ?_
 refine br ?_
 refine oPe T hS 1 [17] [(19,V (.agg #[.slice a1 h_.ae.length c1,.slice a2 h_.al.length c2]))] fun a hS=>?_
 obtain ⟨hq,hm⟩:=hm
 refine op1 (call hS kr kr hb47 kr (fun _ _=>rfl) (Cf _ _ h_ a1 c1 a2 c2 hq h1 h2) ?_)
 intro v105 a n6 n2 hE hp hS
 replace hO:=hO.m2 hE
 replace h1:=h1.m1 hE
 replace h2:=h2.m1 hE
 obtain ⟨cA,cz,hp,h111⟩:=hp
 obtain ⟨bb,hr⟩:∃ r,bo h_=r:=⟨_,rfl⟩
 replace hm:=hm bb hr
 rw [hr] at hp h111
 clear hr
 subst hp
 replace hm:=hm (h111.sm kr)
 refine op1 (call hS kr kr hb56 kr (fun _ _=>rfl) (Lv _ _ bb cA cz h111) ?_)
 intro v112 a xi yu hE hp hS
 replace hO:=hO.m2 hE
 replace h1:=h1.m1 hE
 replace h2:=h2.m1 hE
 replace h111:=h111.m1 hE
 obtain ⟨eD,eC,hp,h118⟩:=hp
 obtain ⟨c9,hr⟩:∃ r,gT bb=r:=⟨_,rfl⟩
 replace hm:=hm c9 hr
 rw [hr] at hp h118
 clear hr
 subst hp
 replace hm:=hm (h118.sm kr)
 refine ePe T hS [19,20,21] [(6,Sl eD c9.1 eC)] fun a hS=>?_
 refine rPe T hS [] [(8,V (.slice none 0 0))] fun a hS=>?_
 refine cb (fun a w=>∃ (Z:Nat->Nat) (X:Nat->Nat) (eE:List Int) (nh:Option Addr) (m9:Nat),VC24_J1 Q c9 eE/\St Tryz.f24.ntmps ⟨[(6,Sl eD c9.1 eC),(8,Sl nh eE m9)],[]⟩ Z a w X/\Old w0 X0 w X/\RS ar w X eD c9.1 eC/\OS tI 3 w X 1004 nh eE m9) ?_ ?_
 ·refine rPe T hS [] [(24,Sl eD c9.1 eC),(25,I (lN c9.1)),(26,I 0)] fun a hS=>?_
  refine aQ ?_
  obtain ⟨I1,μ1,cJ,hm⟩:=hm
  refine cH (σ:=(List Int) × Int) (fun s a w=>∃ Z X kO kM,I1 s.1 s.2/\St Tryz.f24.ntmps ⟨[(1,Pt 2 0),(6,Sl eD c9.1 eC),(8,Sl kO s.1 kM),(24,Sl eD c9.1 eC),(25,I (lN c9.1)),(26,I s.2)],[(2,(25,[Sl a1 h_.ae c1,Sl a2 h_.al c2]))]⟩ Z a w X/\Old w0 X0 w X/\RS ar w X eD c9.1 eC/\OS tI 3 w X 1004 kO s.1 kM/\RS ar w X eD c9.1 eC/\RS aC w X a1 h_.ae c1/\RS aL w X a2 h_.al c2) (fun s=>μ1 s.1 s.2) (⟨[],0⟩) ?_ ?_
  ·exact ⟨Z,_,none,0,cJ,hS.sl _,hO,h118,(OS.nil _ _ _ _ _),h118,h1,h2⟩
  rintro ⟨eZ,gV⟩ a FY ⟨Z,Nh,kO,kM,hI,hS,hO,h126,h130,h131,h133,h134⟩
  replace hm:=hm eZ gV hI
  clear hI cJ
  refine rPe T hS [] [(27,B (decide (gV < (lN c9.1))))] fun a hS=>?_
  refine bh ?_
  refine aI hS (b:=decide (gV < (lN c9.1))) kr (fun hb=>?_) fun hb=>?_
  ·replace hm:=hm.1 hb
   refine aO (bh ?_)
   refine aQ ?_
   refine br ?_
   obtain ⟨hq,hm⟩:=hm
   refine op1 (index (e:=102) (k:=.i64) T hS kr kr kr kr h131 kr kr hq.1 hq.2 ?_)
   intro J9 a h136 hS
   refine op1 (eS T hS kr kr kr h136 kr kr ?_)
   intro v137 a hv hS
   subst hv
   refine eM T hS ⟨[(1,Pt 2 0),(6,Sl eD c9.1 eC),(8,Sl kO eZ kM),(10,Pt 11 0),(24,Sl eD c9.1 eC),(25,I (lN c9.1)),(26,I gV)],[(2,(25,[Sl a1 h_.ae c1,Sl a2 h_.al c2])),(11,(102,(cP (gi c9.1 gV))))]⟩ fun Z a H0 J1 hS hE hr=>?_
   replace hO:=hO.m2 hE
   replace h126:=h126.m1 hE
   replace h130:=h130.m2 hE
   replace h131:=h131.m1 hE
   replace h133:=h133.m1 hE
   replace h134:=h134.m1 hE
   clear hE hr
   refine region ?_
   refine oP T hS 5 ⟨[(1,Pt 2 0),(6,Sl eD c9.1 eC),(8,Sl kO eZ kM),(24,Sl eD c9.1 eC),(25,I (lN c9.1)),(26,I gV),(30,Sl kO eZ kM),(32,Sl a2 h_.al c2),(34,I ((gi c9.1 gV).aG))],[(2,(25,[Sl a1 h_.ae c1,Sl a2 h_.al c2]))]⟩ fun a hS=>?_
   obtain ⟨hq,hm⟩:=hm
   refine op1 (index (e:=63) (k:=.i64) T hS kr kr kr kr h134 kr kr hq.1 hq.2 ?_)
   intro Hr a h139 hS
   refine op1 (fD (off:=0) (fsz:=1) (ft:=3) (TF:=tI) (y:=(gi h_.al ((gi c9.1 gV).aG)).az) T hS kr kr kr h139 kr kr kr (fun cs h=>kE h) ?_)
   intro Hq a h141 hS
   refine op1 (eT T hS kr kr kr h141 rfl kr ?_)
   intro v142 a hv hS
   cases hv
   refine op1 (lit (E:=3) (col:=0) (T:=tI) (vals:=[.int .i64 ((gi h_.al ((gi c9.1 gV).aG)).az)]) (ys:=[(gi h_.al ((gi c9.1 gV).aG)).az]) T hS kr kr kr kr (by exact ⟨rfl,trivial⟩) rfl kr kr kr kr ?_)
   intro b143 a DP Bb hE h146 hN hS
   clear hN
   replace hO:=hO.m2 hE
   replace h126:=h126.m1 hE
   replace h130:=h130.m2 hE
   replace h131:=h131.m1 hE
   replace h133:=h133.m1 hE
   replace h134:=h134.m1 hE
   replace h139:=h139.m1 hE
   replace h141:=h141.m1 hE
   replace h146:=h146.rs0
   obtain ⟨hq,hm⟩:=hm
   obtain ⟨news,hN⟩:=h146.src
   refine op1 (append (E:=3) (T:=tI) (col:=1004) (xs:=eZ) T hS kr kr kr kr h130 hN kr kr kr kr hq ?_)
   intro uJ uC a uU yl hE h149 hS
   clear hq hN
   clear h130
   replace hO:=hO.m2 hE
   replace h126:=h126.m1 hE
   replace h131:=h131.m1 hE
   replace h133:=h133.m1 hE
   replace h134:=h134.m1 hE
   replace h139:=h139.m1 hE
   replace h141:=h141.m1 hE
   replace h146:=h146.m1 hE
   refine ePe T hS [32,34,35,36,37,38,39] [(8,Sl uJ (eZ++[(gi h_.al ((gi c9.1 gV).aG)).az]) uC)] fun a hS=>?_
   refine region (ePe T hS [] [(26,I (wR (gV+1)))] fun a hS=>?_)
   exact ⟨⟨eZ++[(gi h_.al ((gi c9.1 gV).aG)).az],wR (gV+1)⟩,⟨Z,_,uJ,uC,hm.1,hS.sl _,hO,h126,h149,h131,h133,h134⟩,hm.2⟩
  replace hm:=hm.2 hb
  refine cu (by rfl) ?_
  exact ⟨Z,_,eZ,kO,kM,hm,hS.sl _,hO,h126,h130⟩
 rintro a zY ⟨Z,Dc,eE,nh,m9,hm,hS,hO,h119,h123⟩
 unfold VC24_J1 at hm
 refine rPe T hS [6,8] [(2,Sl eD c9.1 eC),(3,Sl nh eE m9)] fun a hS=>?_
 refine ba ?_
 obtain ⟨yp,hE,hF⟩:=h123.freeze (by decide)
 replace hS:=hS.ev hE (c6 kr)
 replace hO:=hO.m2 hE
 replace h119:=h119.m1 hE
 have h125:=hF; clear hE hF
 exact fin T hS hO (fun c=>c) rfl (r:=[.slice eD c9.1.length eC,.slice nh eE.length m9]) kr (fun X' hM hC=>⟨(c9.1,eE),hm,eD,eC,nh,m9,rfl,h119.m0 hM,h125.m0 hM⟩)
theorem C24 (sb:S23) (Cf:S47) (Lv:S56) (v:∀ (h_:ak),gr h_->VC24 h_ (fun r=>r=cY h_)):S24:=by
 intro w X h_ a1 c1 a2 c2   hp h1 h2
 refine (W24 sb Cf Lv w X h_ a1 c1 a2 c2   _ (v h_ hp) h1 h2).mono ?_
 rintro _ _ _ _ ⟨r,rfl,h⟩
 exact h
theorem W16 (Is:S18) (Gz:S28) (Gv:S45) (w0) (X0) (objects:List ao) (l_:List aK) (a1) (c1) (a2) (c2) (Q:(List ab) × (List Int)->Prop) (hm:VC16 objects l_ Q) (h1:RS aC w0 X0 a1 objects c1) (h2:RS bP w0 X0 a2 l_ c2) :
  Ret Tryz.prog 16 #[.slice a1 objects.length c1,.slice a2 l_.length c2] aM w0 X0 (fun w X' v=>∃ r,Q r/\∃ cQ cN jg jf,v=.tuple #[.slice cQ r.1.length cN,.slice jg r.2.length jf]/\RS ar w X' cQ r.1 cN/\RS tI w X' jg r.2 jf):=by
 unfold VC16 at hm
 replace hm:=hm (h1.sm kr)
 replace hm:=hm (h2.sm kr)
 refine enter Tryz.func16 rfl (vals:=[.slice a1 objects.length c1,.slice a2 l_.length c2]) kr ?_
 intro Z a hS hO hM
 replace h1:=h1.m0 hM
 replace h2:=h2.m0 hM
 refine rPe T hS [] [] fun a hS=>?_
 refine br ?_
 refine oPe T hS 2 [0] [(13,Sl a1 objects c1),(14,Sl a2 l_ c2)] fun a hS=>?_
 obtain ⟨hq,hm⟩:=hm
 refine op1 (call hS kr kr hb28 kr (fun _ _=>rfl) (Gz _ _ objects l_ a1 c1 a2 c2 hq h1 h2) ?_)
 intro v101 a fH fK hE hp hS
 replace hO:=hO.m2 hE
 replace h1:=h1.m1 hE
 replace h2:=h2.m1 hE
 obtain ⟨ay,hr⟩:∃ r,dE objects l_=r:=⟨_,rfl⟩
 replace hm:=hm ay hr
 rw [hr] at hp
 clear hr
 subst hp
 refine ePe T hS [13,14,15] [(7,I ay.2)] fun a hS=>?_
 refine bh ?_
 refine rPe T hS [7] [(19,B (ay.2 != 0))] fun a hS=>?_
 refine aI hS (b:=(ay.2 != 0)) kr (fun hb=>?_) fun hb=>?_
 ·replace hm:=hm.1 hb
  refine rPe T hS [1,19] [(4,V (.slice none 0 0)),(5,V (.slice none 0 0))] fun a hS=>?_
  refine ba ?_
  exact fin T hS hO (fun c=>c) rfl (r:=[.slice none 0 0,.slice none 0 0]) kr (fun X' hM hC=>⟨([],[]),hm,none,0,none,0,rfl,RS.empty _ _ _,RS.empty _ _ _⟩)
 replace hm:=hm.2 hb
 refine aO ?_
 refine br ?_
 refine oPe T hS 1 [19] [(21,Sl a2 l_ c2)] fun a hS=>?_
 obtain ⟨hq,hm⟩:=hm
 refine op1 (call hS kr kr hb45 kr (fun _ _=>rfl) (Gv _ _ l_ a2 c2 hq h2) ?_)
 intro v105 a n6 n2 hE hp hS
 replace hO:=hO.m2 hE
 replace h2:=h2.m1 hE
 obtain ⟨cA,cz,hp,h111⟩:=hp
 obtain ⟨bb,hr⟩:∃ r,cS l_=r:=⟨_,rfl⟩
 replace hm:=hm bb hr
 rw [hr] at hp h111
 clear hr
 subst hp
 replace hm:=hm (h111.sm kr)
 refine op1 (call hS kr kr hb18 kr (fun _ _=>rfl) (Is _ _ bb cA cz h111) ?_)
 intro v112 a xi yu hE hp hS
 replace hO:=hO.m2 hE
 replace h2:=h2.m1 hE
 replace h111:=h111.m1 hE
 obtain ⟨eD,eC,hp,h118⟩:=hp
 obtain ⟨c9,hr⟩:∃ r,gD bb=r:=⟨_,rfl⟩
 replace hm:=hm c9 hr
 rw [hr] at hp h118
 clear hr
 subst hp
 replace hm:=hm (h118.sm kr)
 refine ePe T hS [21,22,23] [(8,Sl eD c9.1 eC)] fun a hS=>?_
 refine rPe T hS [] [(10,V (.slice none 0 0))] fun a hS=>?_
 refine cb (fun a w=>∃ (Z:Nat->Nat) (X:Nat->Nat) (eE:List Int) (nh:Option Addr) (m9:Nat),VC16_J1 Q c9 eE/\St Tryz.f16.ntmps ⟨[(8,Sl eD c9.1 eC),(10,Sl nh eE m9)],[]⟩ Z a w X/\Old w0 X0 w X/\RS ar w X eD c9.1 eC/\OS tI 3 w X 1006 nh eE m9) ?_ ?_
 ·refine rPe T hS [] [(11,I 0)] fun a hS=>?_
  refine aQ ?_
  obtain ⟨I1,μ1,cJ,hm⟩:=hm
  refine cH (σ:=(List Int) × Int) (fun s a w=>∃ Z X lY lX,I1 s.1 s.2/\St Tryz.f16.ntmps ⟨[(1,Sl a2 l_ c2),(8,Sl eD c9.1 eC),(10,Sl lY s.1 lX),(11,I s.2)],[]⟩ Z a w X/\Old w0 X0 w X/\RS bP w X a2 l_ c2/\RS ar w X eD c9.1 eC/\OS tI 3 w X 1006 lY s.1 lX) (fun s=>μ1 s.1 s.2) (⟨[],0⟩) ?_ ?_
  ·exact ⟨Z,_,none,0,cJ,hS.sl _,hO,h2,h118,(OS.nil _ _ _ _ _)⟩
  rintro ⟨gf,gV⟩ a Bq ⟨Z,yk,lY,lX,hI,hS,hO,h126,h127,h131⟩
  replace hm:=hm gf gV hI
  clear hI cJ
  refine bh ?_
  refine rPe T hS [] [(29,B (decide (gV < (lN c9.1))))] fun a hS=>?_
  refine aI hS (b:=decide (gV < (lN c9.1))) kr (fun hb=>?_) fun hb=>?_
  ·replace hm:=hm.1 hb
   refine aO (bh ?_)
   refine aQ ?_
   refine region ?_
   refine oPe T hS 4 [29] [(32,Sl lY gf lX),(33,Sl a2 l_ c2),(34,Sl eD c9.1 eC),(35,I gV)] fun a hS=>?_
   obtain ⟨hq,hm⟩:=hm
   refine op1 (index (e:=102) (k:=.i64) T hS kr kr kr kr h127 kr kr hq.1 hq.2 ?_)
   intro Nt a h134 hS
   refine op1 (fD (off:=2) (fsz:=1) (ft:=3) (TF:=tI) (y:=(gi c9.1 gV).aG) T hS kr kr kr h134 kr kr kr (fun cs h=>pW h) ?_)
   intro J9 a h136 hS
   refine op1 (eT T hS kr kr kr h136 rfl kr ?_)
   intro v137 a hv hS
   cases hv
   obtain ⟨hq,hm⟩:=hm
   refine op1 (index (e:=77) (k:=.i64) T hS kr kr kr kr h126 kr kr hq.1 hq.2 ?_)
   intro Hr a h139 hS
   refine op1 (fD (off:=0) (fsz:=1) (ft:=3) (TF:=tI) (y:=(gi l_ ((gi c9.1 gV).aG)).az) T hS kr kr kr h139 kr kr kr (fun cs h=>mH h) ?_)
   intro Hq a h141 hS
   refine op1 (eT T hS kr kr kr h141 rfl kr ?_)
   intro v142 a hv hS
   cases hv
   refine op1 (lit (E:=3) (col:=0) (T:=tI) (vals:=[.int .i64 ((gi l_ ((gi c9.1 gV).aG)).az)]) (ys:=[(gi l_ ((gi c9.1 gV).aG)).az]) T hS kr kr kr kr (by exact ⟨rfl,trivial⟩) rfl kr kr kr kr ?_)
   intro b143 a DP Bb hE h146 hN hS
   clear hN
   replace hO:=hO.m2 hE
   replace h126:=h126.m1 hE
   replace h127:=h127.m1 hE
   replace h131:=h131.m2 hE
   replace h134:=h134.m1 hE
   replace h136:=h136.m1 hE
   replace h139:=h139.m1 hE
   replace h141:=h141.m1 hE
   replace h146:=h146.rs0
   obtain ⟨hq,hm⟩:=hm
   obtain ⟨news,hN⟩:=h146.src
   refine op1 (append (E:=3) (T:=tI) (col:=1006) (xs:=gf) T hS kr kr kr kr h131 hN kr kr kr kr hq ?_)
   intro uJ uC a uU yl hE h149 hS
   clear hq hN
   clear h131
   replace hO:=hO.m2 hE
   replace h126:=h126.m1 hE
   replace h127:=h127.m1 hE
   replace h134:=h134.m1 hE
   replace h136:=h136.m1 hE
   replace h139:=h139.m1 hE
   replace h141:=h141.m1 hE
   replace h146:=h146.m1 hE
   refine ePe T hS [33,34,35,36,37,38,39,40,41,42,43] [(10,Sl uJ (gf++[(gi l_ ((gi c9.1 gV).aG)).az]) uC)] fun a hS=>?_
   refine region (ePe T hS [] [(11,I (wR (gV+1)))] fun a hS=>?_)
   exact ⟨⟨gf++[(gi l_ ((gi c9.1 gV).aG)).az],wR (gV+1)⟩,⟨Z,_,uJ,uC,hm.1,hS.sl _,hO,h126,h127,h149⟩,hm.2⟩
  replace hm:=hm.2 hb
  refine cu (by rfl) ?_
  exact ⟨Z,_,gf,lY,lX,hm,hS.sl _,hO,h127,h131⟩
 rintro a FY ⟨Z,Nh,eE,nh,m9,hm,hS,hO,h119,h123⟩
 unfold VC16_J1 at hm
 refine rPe T hS [8,10] [(4,Sl eD c9.1 eC),(5,Sl nh eE m9)] fun a hS=>?_
 refine ba ?_
 obtain ⟨yp,hE,hF⟩:=h123.freeze (by decide)
 replace hS:=hS.ev hE (c6 kr)
 replace hO:=hO.m2 hE
 replace h119:=h119.m1 hE
 have h125:=hF; clear hE hF
 exact fin T hS hO (fun c=>c) rfl (r:=[.slice eD c9.1.length eC,.slice nh eE.length m9]) kr (fun X' hM hC=>⟨(c9.1,eE),hm,eD,eC,nh,m9,rfl,h119.m0 hM,h125.m0 hM⟩)
theorem C16 (Is:S18) (Gz:S28) (Gv:S45) (v:∀ (objects:List ao) (l_:List aK),k5 objects l_->VC16 objects l_ (fun r=>r=dc objects l_)):S16:=by
 intro w X objects l_ a1 c1 a2 c2   hp h1 h2
 refine (W16 Is Gz Gv w X objects l_ a1 c1 a2 c2   _ (v objects l_ hp) h1 h2).mono ?_
 rintro _ _ _ _ ⟨r,rfl,h⟩
 exact h
theorem W41 (sb:S23) (Cg:S24) (w0) (X0) (h_:ak) (a1) (c1) (a2) (c2) (Q:(List ab) × (List Int) × Int->Prop) (hm:VC41 h_ Q) (h1:RS aC w0 X0 a1 h_.ae c1) (h2:RS aL w0 X0 a2 h_.al c2) :
  Ret Tryz.prog 41 #[.agg #[.slice a1 h_.ae.length c1,.slice a2 h_.al.length c2]] aM w0 X0 (fun w X' v=>∃ r,Q r/\∃ cQ cN jg jf,v=.tuple #[.slice cQ r.1.length cN,.slice jg r.2.1.length jf,.int .i64 r.2.2]/\RS ar w X' cQ r.1 cN/\RS tI w X' jg r.2.1 jf):=by
 unfold VC41 at hm
 replace hm:=hm (h1.sm kr)
 replace hm:=hm (h2.sm kr)
 refine enter Tryz.func41 rfl (vals:=[.agg #[.slice a1 h_.ae.length c1,.slice a2 h_.al.length c2]]) kr ?_
 intro Z a hS hO hM
 replace h1:=h1.m0 hM
 replace h2:=h2.m0 hM
 refine rM T hS ⟨[(1,Pt 2 0)],[(2,(25,[Sl a1 h_.ae c1,Sl a2 h_.al c2]))]⟩ fun Z a pY uM hS hE hr=>?_
 replace hO:=hO.m2 hE
 replace h1:=h1.m1 hE
 replace h2:=h2.m1 hE
 clear hE hr
 refine bh ?_
 refine br ?_
 refine oPe T hS 1 [] [(10,V (.agg #[.slice a1 h_.ae.length c1,.slice a2 h_.al.length c2]))] fun a hS=>?_
 obtain ⟨hq,hm⟩:=hm
 refine op1 (call hS kr kr hb23 kr (fun _ _=>rfl) (sb _ _ h_ a1 c1 a2 c2 hq h1 h2) ?_)
 intro v101 a fH fK hE hp hS
 replace hO:=hO.m2 hE
 replace h1:=h1.m1 hE
 replace h2:=h2.m1 hE
 obtain ⟨ay,hr⟩:∃ r,aD h_=r:=⟨_,rfl⟩
 replace hm:=hm ay hr
 rw [hr] at hp
 clear hr
 subst hp
 refine ePe T hS [10,11] [(6,I ay.2)] fun a hS=>?_
 refine rPe T hS [] [(15,B (ay.2 != 0))] fun a hS=>?_
 refine aI hS (b:=(ay.2 != 0)) kr (fun hb=>?_) fun hb=>?_
 ·replace hm:=hm.1 hb
  refine rP T hS ⟨[(2,V (.slice none 0 0)),(3,V (.slice none 0 0)),(4,I ay.2)],[]⟩ fun a hS=>?_
  refine ba ?_
  exact fin T hS hO (fun c=>c) rfl (r:=[.slice none 0 0,.slice none 0 0,.int .i64 ay.2]) kr (fun X' hM hC=>⟨([],[],ay.2),hm,none,0,none,0,rfl,RS.empty _ _ _,RS.empty _ _ _⟩)
 replace hm:=hm.2 hb
 refine aO ?_
 refine br ?_
 refine oP T hS 1 ⟨[(18,V (.agg #[.slice a1 h_.ae.length c1,.slice a2 h_.al.length c2]))],[]⟩ fun a hS=>?_
 obtain ⟨hq,hm⟩:=hm
 refine op1 (call hS kr kr hb24 kr (fun _ _=>rfl) (Cg _ _ h_ a1 c1 a2 c2 hq h1 h2) ?_)
 intro v105 a n6 n2 hE hp hS
 replace hO:=hO.m2 hE
 replace h1:=h1.m1 hE
 replace h2:=h2.m1 hE
 obtain ⟨cA,cz,eO,eN,hp,h111,h114⟩:=hp
 obtain ⟨bb,hr⟩:∃ r,cY h_=r:=⟨_,rfl⟩
 replace hm:=hm bb hr
 rw [hr] at hp h111 h114
 clear hr
 subst hp
 replace hm:=hm (h111.sm kr)
 replace hm:=hm (h114.sm kr)
 refine ePe T hS [18,19] [(7,Sl cA bb.1 cz),(8,Sl eO bb.2 eN)] fun a hS=>?_
 refine bh ?_
 refine rPe T hS [] [(24,B (decide ((lN bb.1) > 20)))] fun a hS=>?_
 refine aI hS (b:=decide ((lN bb.1) > 20)) kr (fun hb=>?_) fun hb=>?_
 ·replace hm:=hm.1 hb
  refine rPe T hS [7,8,24] [(2,V (.slice none 0 0)),(3,V (.slice none 0 0)),(4,I 3)] fun a hS=>?_
  refine ba ?_
  exact fin T hS hO (fun c=>c) rfl (r:=[.slice none 0 0,.slice none 0 0,.int .i64 3]) kr (fun X' hM hC=>⟨([],[],3),hm,none,0,none,0,rfl,RS.empty _ _ _,RS.empty _ _ _⟩)
 replace hm:=hm.2 hb
 refine aO ?_
 refine rPe T hS [7,8,24] [(2,Sl cA bb.1 cz),(3,Sl eO bb.2 eN),(4,I 0)] fun a hS=>?_
 refine ba ?_
 exact fin T hS hO (fun c=>c) rfl (r:=[.slice cA bb.1.length cz,.slice eO bb.2.length eN,.int .i64 0]) kr (fun X' hM hC=>⟨(bb.1,bb.2,0),hm,cA,cz,eO,eN,rfl,h111.m0 hM,h114.m0 hM⟩)
theorem C41 (sb:S23) (Cg:S24) (v:∀ (h_:ak),gr h_->VC41 h_ (fun r=>r=cm h_)):S41:=by
 intro w X h_ a1 c1 a2 c2   hp h1 h2
 refine (W41 sb Cg w X h_ a1 c1 a2 c2   _ (v h_ hp) h1 h2).mono ?_
 rintro _ _ _ _ ⟨r,rfl,h⟩
 exact h
theorem W69 (w0) (X0) (of:List Int) (k_:Int) (a1) (c1) (Q:(List Int)->Prop) (hm:VC69 of k_ Q) (h1:RS tI w0 X0 a1 of c1) :
  Ret Tryz.prog 69 #[.slice a1 of.length c1,.int .i64 k_] aM w0 X0 (fun w X' v=>∃ r,Q r/\∃ cQ cN,v=.slice cQ r.length cN/\RS tI w X' cQ r cN):=by
 unfold VC69 at hm
 replace hm:=hm (h1.sm kr)
 refine enter Tryz.func69 rfl (vals:=[.slice a1 of.length c1,.int .i64 k_]) kr ?_
 intro Z a hS hO hM
 replace h1:=h1.m0 hM
 refine rPe T hS [] [] fun a hS=>?_
 refine rPe T hS [] [(5,V (.slice none 0 0))] fun a hS=>?_
 refine cb (fun a w=>∃ (Z:Nat->Nat) (X:Nat->Nat) (bD:List Int) (dw:Option Addr) (dv:Nat),VC69_J1 Q bD/\St Tryz.f69.ntmps ⟨[(5,Sl dw bD dv)],[]⟩ Z a w X/\Old w0 X0 w X/\OS tI 3 w X 1005 dw bD dv) ?_ ?_
 ·refine rPe T hS [0] [(8,Sl a1 of c1),(9,I (lN of)),(10,I 0)] fun a hS=>?_
  refine aQ ?_
  obtain ⟨I1,μ1,cJ,hm⟩:=hm
  refine cH (σ:=(List Int) × Int) (fun s a w=>∃ Z X je jd,I1 s.1 s.2/\St Tryz.f69.ntmps ⟨[(1,I k_),(5,Sl je s.1 jd),(8,Sl a1 of c1),(9,I (lN of)),(10,I s.2)],[]⟩ Z a w X/\Old w0 X0 w X/\OS tI 3 w X 1005 je s.1 jd/\RS tI w X a1 of c1) (fun s=>μ1 s.1 s.2) (⟨[],0⟩) ?_ ?_
  ·exact ⟨Z,_,none,0,cJ,hS.sl _,hO,(OS.nil _ _ _ _ _),h1⟩
  rintro ⟨gY,cZ⟩ a z3 ⟨Z,rS,je,jd,hI,hS,hO,h110,h111⟩
  replace hm:=hm gY cZ hI
  clear hI cJ
  refine rPe T hS [] [(11,B (decide (cZ < (lN of))))] fun a hS=>?_
  refine bh ?_
  refine aI hS (b:=decide (cZ < (lN of))) kr (fun hb=>?_) fun hb=>?_
  ·replace hm:=hm.1 hb
   refine aO ?_
   refine cb (fun a w=>∃ (Z:Nat->Nat) (X:Nat->Nat) (bg:List Int) (mg:Option Addr) (mf:Nat),VC69_J2 I1 μ1 gY cZ bg/\St Tryz.f69.ntmps ⟨[(1,I k_),(5,Sl mg bg mf),(8,Sl a1 of c1),(9,I (lN of)),(10,I cZ)],[]⟩ Z a w X/\Old w0 X0 w X/\OS tI 3 w X 1005 mg bg mf/\RS tI w X a1 of c1) ?_ ?_
   ·refine aQ ?_
    refine br ?_
    refine oPe T hS 1 [11] [(12,I cZ)] fun a hS=>?_
    obtain ⟨hq,hm⟩:=hm
    refine op1 (index (e:=3) (k:=.i64) T hS kr kr kr kr h111 kr kr hq.1 hq.2 ?_)
    intro Hv a h119 hS
    refine op1 (eT T hS kr kr kr h119 rfl kr ?_)
    intro v120 a hv hS
    cases hv
    refine ePe T hS [12,13,14] [(6,I cZ),(7,I (gi of cZ))] fun a hS=>?_
    refine rPe T hS [7] [(17,B ((gi of cZ) == k_))] fun a hS=>?_
    refine aI hS (b:=((gi of cZ) == k_)) kr (fun hb=>?_) fun hb=>?_
    ·replace hm:=hm.1 hb
     refine region ?_
     refine oPe T hS 2 [6,17] [(18,Sl je gY jd),(19,I cZ)] fun a hS=>?_
     refine op1 (lit (E:=3) (col:=0) (T:=tI) (vals:=[.int .i64 cZ]) (ys:=[cZ]) T hS kr kr kr kr (by exact ⟨rfl,trivial⟩) rfl kr kr kr kr ?_)
     intro b121 a uX uL hE h124 hN hS
     clear hN
     replace hO:=hO.m2 hE
     replace h110:=h110.m2 hE
     replace h111:=h111.m1 hE
     replace h124:=h124.rs0
     obtain ⟨hq,hm⟩:=hm
     obtain ⟨news,hN⟩:=h124.src
     refine op1 (append (E:=3) (T:=tI) (col:=1005) (xs:=gY) T hS kr kr kr kr h110 hN kr kr kr kr hq ?_)
     intro kO kM a z4 yn hE h127 hS
     clear hq hN
     clear h110
     replace hO:=hO.m2 hE
     replace h111:=h111.m1 hE
     replace h124:=h124.m1 hE
     refine ePe T hS [19,20,21] [(5,Sl kO (gY++[cZ]) kM)] fun a hS=>?_
     exact ⟨Z,_,gY++[cZ],kO,kM,hm,hS.sl _,hO,h127,h111⟩
    replace hm:=hm.2 hb
    refine aO ?_
    exact ⟨Z,_,gY,je,jd,hm,hS.sl _,hO,h110,h111⟩
   rintro a r7 ⟨Z,EN,bg,mg,mf,hm,hS,hO,h116,h117⟩
   unfold VC69_J2 at hm
   refine region (ePe T hS [] [(10,I (wR (cZ+1)))] fun a hS=>?_)
   exact ⟨⟨bg,wR (cZ+1)⟩,⟨Z,_,mg,mf,hm.1,hS.sl _,hO,h116,h117⟩,hm.2⟩
  replace hm:=hm.2 hb
  refine cu (by rfl) ?_
  exact ⟨Z,_,gY,je,jd,hm,hS.sl _,hO,h110⟩
 rintro a DR ⟨Z,Dd,bD,dw,dv,hm,hS,hO,h104⟩
 unfold VC69_J1 at hm
 refine rPe T hS [5] [(4,Sl dw bD dv)] fun a hS=>?_
 refine ba ?_
 obtain ⟨pD,hE,hF⟩:=h104.freeze (by decide)
 replace hS:=hS.ev hE (c6 kr)
 replace hO:=hO.m2 hE
 have h106:=hF; clear hE hF
 exact fin T hS hO (fun c=>c) rfl (r:=[.slice dw bD.length dv]) kr (fun X' hM hC=>⟨bD,hm,dw,dv,rfl,h106.m0 hM⟩)
theorem C69 (v:∀ (of:List Int) (k_:Int),sD of k_->VC69 of k_ (fun r=>r=aW of k_)):S69:=by
 intro w X of k_ a1 c1   hp h1
 refine (W69 w X of k_ a1 c1   _ (v of k_ hp) h1).mono ?_
 rintro _ _ _ _ ⟨r,rfl,h⟩
 exact h
theorem W72 (w0) (X0) (i_:Int) (aq:List Int) (ax:Int) (a1) (c1) (b1) (i1) (b2) (i2) (Q:Bool->Prop) (hm:VC72 i_ aq ax Q) (h1:RS tI w0 X0 a1 aq c1) (fF:Cell w0 X0 b1 i1 43 [.slice a1 aq.length c1]) (g8:Cell w0 X0 b2 i2 3 [.int .i64 ax]) (hA:dS [i1,i2]) :
  Ret Tryz.prog 72 #[.int .i64 i_,.pointer (some ⟨b1,0,none⟩),.pointer (some ⟨b2,0,none⟩)] (pR [i1,i2]) w0 X0 (fun w X' v=>∃ r,Q r/\v=.bool r/\Cell w X' b1 i1 43 [.slice a1 aq.length c1]/\Cell w X' b2 i2 3 [.int .i64 ax]):=by
 unfold VC72 at hm
 replace hm:=hm (h1.sm kr)
 refine fT Tryz.func72 rfl (dH [(i1,901),(i2,902)]) (fun id=>(bif Nat.beq id 901 then b1 else (bif Nat.beq id 902 then b2 else 0))) (args:=[I i_,Pt 901 0,Pt 902 0]) (bxs:=[(901,(43,[Sl a1 aq c1])),(902,(3,[I ax]))]) kr rfl (bq.cons kr (fF.map (bQ 0 hA.1 rfl)) (bq.cons kr (g8.map (bQ 1 hA.1 rfl)) bq.nil)) (fJ (fun q hq=>(hA.2 q.1 (List.mem_map.2 ⟨q,hq,rfl⟩)).1)) ?_
 intro a hS hO hM
 have hP:Pin [(901,b1),(902,b2)] (fun id=>(bif Nat.beq id 901 then b1 else (bif Nat.beq id 902 then b2 else 0))):=by intro q hq; simp at hq; rcases hq with rfl | rfl <;> rfl
 generalize (fun id=>(bif Nat.beq id 901 then b1 else (bif Nat.beq id 902 then b2 else 0)))=Z at hS hP
 clear fF g8
 replace h1:=h1.m0 hM
 refine rPe T hS [] [] fun a hS=>?_
 refine dB [901,902] mixed hS ?_
 intro oX pE hS hE hD hH
 replace hO:=hO.m2 hE
 replace h1:=h1.m1 hE
 refine tke T [0,1,4] [901,902] hS hH #[true,true,false,false,true,false,false] 4 [0,1,2] [(5,Sl a1 aq c1),(6,I i_),(9,I ax)] fun a hS=>?_
 obtain ⟨hq,hm⟩:=hm
 refine dg (e:=3) (k:=.i64) T 2 hS kr kr kr (by rfl) kr hH kr kr h1 kr kr hq.1 hq.2 ?_
 intro uP a h104 hS
 have vX:=h104.here
 refine dQ T 3 hS kr kr kr (by rfl) kr hH kr h104 vX rfl kr ?_
 intro v105 a hv hS
 cases hv
 refine tke T [5,6] [901,902] hS hH (tts 7) 0 [5,6,9,7,8] [(4,B ((gi aq i_) == ax))] fun a hS=>?_
 refine aY kr ?_
 replace hS:=hS.sle [] []
 refine ba ?_
 exact g9 T hS hO (fun c h=>bZ kr h) (fun c h=>b0 (l:=[(i1,901),(i2,902)]) h) (bT [(i1,901),(i2,902)]) rfl (r:=[.bool ((gi aq i_) == ax)]) kr (fun X' hM hC=>⟨((gi aq i_) == ax),hm,rfl,((hS.cell (id:=901) (t:=43) (cs:=[Sl a1 aq c1]) kr).out (f:=(bT [(i1,901),(i2,902)])) hC kr kr (hP.at 0 rfl)),((hS.cell (id:=902) (t:=3) (cs:=[I ax]) kr).out (f:=(bT [(i1,901),(i2,902)])) hC kr kr (hP.at 1 rfl))⟩)
theorem C72 (v:∀ (i_:Int) (aq:List Int) (ax:Int),tR i_ aq ax->VC72 i_ aq ax (fun r=>r=du i_ aq ax)):S72:=by
 intro w X i_ aq ax a1 c1  b1 i1 b2 i2 hp h1 fF g8 hA
 refine (W72 w X i_ aq ax a1 c1  b1 i1 b2 i2 _ (v i_ aq ax hp) h1 fF g8 hA).mono ?_
 rintro _ _ _ _ ⟨r,rfl,h⟩
 exact h
theorem W71_72 (Ll:S72) (w0) (X0) (l_:List ab) (aq:List Int) (ax:Int) (a1) (c1) (a2) (c2) (b1) (i1) (b2) (i2) (Q:(List ab)->Prop) (hm:VC71_72 l_ aq ax Q) (h1:RS ar w0 X0 a1 l_ c1) (h2:RS tI w0 X0 a2 aq c2) (fF:Cell w0 X0 b1 i1 43 [.slice a2 aq.length c2]) (g8:Cell w0 X0 b2 i2 3 [.int .i64 ax]) (hA:dS [i1,i2]) :
  Ret Tryz.prog 71 #[.slice a1 l_.length c1,.func (.func 72) #[] #[.pointer (some ⟨b1,0,none⟩),.pointer (some ⟨b2,0,none⟩)]] (pR [i1,i2]) w0 X0 (fun w X' v=>∃ r,Q r/\∃ cQ cN,v=.slice cQ r.length cN/\RS ar w X' cQ r cN/\Cell w X' b1 i1 43 [.slice a2 aq.length c2]/\Cell w X' b2 i2 3 [.int .i64 ax]):=by
 unfold VC71_72 at hm
 replace hm:=hm (h1.sm kr)
 replace hm:=hm (h2.sm kr)
 refine fT Tryz.func71 rfl (dH [(i1,901),(i2,902)]) (fun id=>(bif Nat.beq id 901 then b1 else (bif Nat.beq id 902 then b2 else 0))) (args:=[Sl a1 l_ c1,.f (.func 72) [] [.p 901 0,.p 902 0]]) (bxs:=[(901,(43,[Sl a2 aq c2])),(902,(3,[I ax]))]) kr rfl (bq.cons kr (fF.map (bQ 0 hA.1 rfl)) (bq.cons kr (g8.map (bQ 1 hA.1 rfl)) bq.nil)) (fJ (fun q hq=>(hA.2 q.1 (List.mem_map.2 ⟨q,hq,rfl⟩)).1)) ?_
 intro a hS hO hM
 have hP:Pin [(901,b1),(902,b2)] (fun id=>(bif Nat.beq id 901 then b1 else (bif Nat.beq id 902 then b2 else 0))):=by intro q hq; simp at hq; rcases hq with rfl | rfl <;> rfl
 generalize (fun id=>(bif Nat.beq id 901 then b1 else (bif Nat.beq id 902 then b2 else 0)))=Z at hS hP
 clear fF g8
 replace h1:=h1.m0 hM
 replace h2:=h2.m0 hM
 refine rPe T hS [] [] fun a hS=>?_
 refine rPe T hS [] [(5,V (.slice none 0 0))] fun a hS=>?_
 refine cb (fun a w=>∃ (Z:Nat->Nat) (X:Nat->Nat) (bD:List ab) (dw:Option Addr) (dv:Nat),VC71_72_J1 Q bD/\St Tryz.f71.ntmps ⟨[(5,Sl dw bD dv)],[(901,(43,[Sl a2 aq c2])),(902,(3,[I ax]))]⟩ Z a w X/\gq (dH [(i1,901),(i2,902)]) w0 X0 w X/\Pin [(901,b1),(902,b2)] Z/\OS ar 102 w X 1005 dw bD dv/\RS tI w X a2 aq c2) ?_ ?_
 ·refine rPe T hS [0] [(8,Sl a1 l_ c1),(9,I (lN l_)),(10,I 0)] fun a hS=>?_
  refine aQ ?_
  obtain ⟨I1,μ1,cJ,hm⟩:=hm
  refine cH (σ:=(List ab) × Int) (fun s a w=>∃ Z X cA cz,I1 s.1 s.2/\St Tryz.f71.ntmps ⟨[(1,.f (.func 72) [] [.p 901 0,.p 902 0]),(5,Sl cA s.1 cz),(8,Sl a1 l_ c1),(9,I (lN l_)),(10,I s.2)],[(901,(43,[Sl a2 aq c2])),(902,(3,[I ax]))]⟩ Z a w X/\gq (dH [(i1,901),(i2,902)]) w0 X0 w X/\Pin [(901,b1),(902,b2)] Z/\OS ar 102 w X 1005 cA s.1 cz/\RS ar w X a1 l_ c1/\RS tI w X a2 aq c2) (fun s=>μ1 s.1 s.2) (⟨[],0⟩) ?_ ?_
  ·exact ⟨Z,_,none,0,cJ,hS.sl _,hO,hP,(OS.nil _ _ _ _ _),h1,h2⟩
  rintro ⟨dz,bg⟩ a DP ⟨Z,sd,cA,cz,hI,hS,hO,hP,h111,h112,h114⟩
  replace hm:=hm dz bg hI
  clear hI cJ
  refine rPe T hS [] [(11,B (decide (bg < (lN l_))))] fun a hS=>?_
  refine bh ?_
  refine aI hS (b:=decide (bg < (lN l_))) kr (fun hb=>?_) fun hb=>?_
  ·replace hm:=hm.1 hb
   refine aO ?_
   refine cb (fun a w=>∃ (Z:Nat->Nat) (X:Nat->Nat) (bu:List ab) (eD:Option Addr) (eC:Nat),VC71_72_J2 I1 μ1 dz bg bu/\St Tryz.f71.ntmps ⟨[(1,.f (.func 72) [] [.p 901 0,.p 902 0]),(5,Sl eD bu eC),(8,Sl a1 l_ c1),(9,I (lN l_)),(10,I bg)],[(901,(43,[Sl a2 aq c2])),(902,(3,[I ax]))]⟩ Z a w X/\gq (dH [(i1,901),(i2,902)]) w0 X0 w X/\Pin [(901,b1),(902,b2)] Z/\OS ar 102 w X 1005 eD bu eC/\RS ar w X a1 l_ c1/\RS tI w X a2 aq c2) ?_ ?_
   ·refine aQ ?_
    refine br ?_
    refine oPe T hS 1 [11] [(12,I bg)] fun a hS=>?_
    obtain ⟨hq,hm⟩:=hm
    refine op1 (index (e:=102) (k:=.i64) T hS kr kr kr kr h112 kr kr hq.1 hq.2 ?_)
    intro Hu a h122 hS
    refine op1 (eS T hS kr kr kr h122 kr kr ?_)
    intro v123 a hv hS
    subst hv
    refine eM T hS ⟨[(1,.f (.func 72) [] [.p 901 0,.p 902 0]),(5,Sl cA dz cz),(6,I bg),(7,Pt 8 0),(8,Sl a1 l_ c1),(9,I (lN l_)),(10,I bg)],[(8,(102,(cP (gi l_ bg)))),(901,(43,[Sl a2 aq c2])),(902,(3,[I ax]))]⟩ fun Z a tu wQ hS hE hr=>?_
    replace hO:=hO.m2 hE
    replace h111:=h111.m2 hE
    replace h112:=h112.m1 hE
    replace h114:=h114.m1 hE
    replace hP:=hP.mv hr kr
    clear hE hr
    refine br ?_
    refine oPe T hS 2 [6] [(15,.f (.func 72) [] [.p 901 0,.p 902 0]),(16,I bg)] fun a hS=>?_
    obtain ⟨hq,hm⟩:=hm
    refine op1 (ko (fi:=[]) (cp:=[.p 901 0,.p 902 0]) hS kr kr hb72 kr kr (Ll _ _ bg aq ax a2 c2 (Z 901) 901 (Z 902) 902 hq h114 (hS.cell (id:=901) (t:=43) (cs:=[Sl a2 aq c2]) kr) (hS.cell (id:=902) (t:=3) (cs:=[I ax]) kr) ⟨by decide,by decide⟩) ?_)
    intro v124 a z4 yn hE hp hS
    replace hO:=hO.m2 hE
    replace h111:=h111.m2 hE
    replace h112:=h112.m1 hE
    replace h114:=h114.m1 hE
    obtain ⟨hp,Fv,vN⟩:=hp
    obtain ⟨Am,hr⟩:∃ r,du bg aq ax=r:=⟨_,rfl⟩
    replace hm:=hm Am hr
    rw [hr] at hp
    clear hr
    subst hp
    replace hS:=hS.cI (id:=901) (t:=43) (cs:=[Sl a2 aq c2]) kr Fv
    replace hS:=hS.cI (id:=902) (t:=3) (cs:=[I ax]) kr vN
    clear Fv vN
    refine iy ?_
    refine aI hS (b:=Am) kr (fun hb=>?_) fun hb=>?_
    ·replace hm:=hm.1 hb
     refine region ?_
     refine oP T hS 2 ⟨[(1,.f (.func 72) [] [.p 901 0,.p 902 0]),(5,Sl cA dz cz),(8,Sl a1 l_ c1),(9,I (lN l_)),(10,I bg),(18,Sl cA dz cz),(19,V (.agg #[.int .i64 ((gi l_ bg).ah),.int .i64 ((gi l_ bg).Kind),.int .i64 ((gi l_ bg).aG),.int .i64 ((gi l_ bg).End),.int .i64 ((gi l_ bg).Result)]))],[(901,(43,[Sl a2 aq c2])),(902,(3,[I ax]))]⟩ fun a hS=>?_
     refine op1 (lit (E:=102) (col:=0) (T:=ar) (vals:=[.agg #[.int .i64 ((gi l_ bg).ah),.int .i64 ((gi l_ bg).Kind),.int .i64 ((gi l_ bg).aG),.int .i64 ((gi l_ bg).End),.int .i64 ((gi l_ bg).Result)]]) (ys:=[(gi l_ bg)]) T hS kr kr kr kr (by exact ⟨rfl,trivial⟩) rfl kr kr kr kr ?_)
     intro b130 a r7 rS hE h133 hN hS
     clear hN
     replace hO:=hO.m2 hE
     replace h111:=h111.m2 hE
     replace h112:=h112.m1 hE
     replace h114:=h114.m1 hE
     replace h133:=h133.rs0
     obtain ⟨hq,hm⟩:=hm
     obtain ⟨news,hN⟩:=h133.src
     refine op1 (append (E:=102) (T:=ar) (col:=1005) (xs:=dz) T hS kr kr kr kr h111 hN kr kr kr kr hq ?_)
     intro JQ JC a z1 ym hE h136 hS
     clear hq hN
     clear h111
     replace hO:=hO.m2 hE
     replace h112:=h112.m1 hE
     replace h114:=h114.m1 hE
     replace h133:=h133.m1 hE
     refine ePe T hS [19,20,21] [(5,Sl JQ (dz++[(gi l_ bg)]) JC)] fun a hS=>?_
     exact ⟨Z,_,dz++[(gi l_ bg)],JQ,JC,hm,hS.sl _,hO,hP,h136,h112,h114⟩
    replace hm:=hm.2 hb
    refine aO ?_
    exact ⟨Z,_,dz,cA,cz,hm,hS.sl _,hO,hP,h111,h112,h114⟩
   rintro a r6 ⟨Z,Bc,bu,eD,eC,hm,hS,hO,hP,h118,h119,h120⟩
   unfold VC71_72_J2 at hm
   refine region (ePe T hS [] [(10,I (wR (bg+1)))] fun a hS=>?_)
   exact ⟨⟨bu,wR (bg+1)⟩,⟨Z,_,eD,eC,hm.1,hS.sl _,hO,hP,h118,h119,h120⟩,hm.2⟩
  replace hm:=hm.2 hb
  refine cu (by rfl) ?_
  exact ⟨Z,_,dz,cA,cz,hm,hS.sl _,hO,hP,h111,h114⟩
 rintro a DM ⟨Z,Bb,bD,dw,dv,hm,hS,hO,hP,h104,h105⟩
 unfold VC71_72_J1 at hm
 refine rPe T hS [5] [(4,Sl dw bD dv)] fun a hS=>?_
 refine ba ?_
 obtain ⟨mh,hE,hF⟩:=h104.freeze (by decide)
 replace hS:=hS.ev hE (c6 kr)
 replace hO:=hO.m2 hE
 replace h105:=h105.m1 hE
 have h107:=hF; clear hE hF
 exact g9 T hS hO (fun c h=>bZ kr h) (fun c h=>b0 (l:=[(i1,901),(i2,902)]) h) (bT [(i1,901),(i2,902)]) rfl (r:=[.slice dw bD.length dv]) kr (fun X' hM hC=>⟨bD,hm,dw,dv,rfl,h107.m0 hM,((hS.cell (id:=901) (t:=43) (cs:=[Sl a2 aq c2]) kr).out (f:=(bT [(i1,901),(i2,902)])) hC kr kr (hP.at 0 rfl)),((hS.cell (id:=902) (t:=3) (cs:=[I ax]) kr).out (f:=(bT [(i1,901),(i2,902)])) hC kr kr (hP.at 1 rfl))⟩)
theorem C71_72 (Ll:S72) (v:∀ (l_:List ab) (aq:List Int) (ax:Int),yQ l_ aq ax->VC71_72 l_ aq ax (fun r=>r=bz l_ aq ax)):S71_72:=by
 intro w X l_ aq ax a1 c1 a2 c2  b1 i1 b2 i2 hp h1 h2 fF g8 hA
 refine (W71_72 Ll w X l_ aq ax a1 c1 a2 c2  b1 i1 b2 i2 _ (v l_ aq ax hp) h1 h2 fF g8 hA).mono ?_
 rintro _ _ _ _ ⟨r,rfl,h⟩
 exact h
theorem W42 (Ln:S69) (Lm:S70) (xU:S71_72) (w0) (X0) (h_:ak) (l_:List ab) (of:List Int) (a1) (c1) (a2) (c2) (a3) (c3) (a4) (c4) (Q:(List (List aa)) × Int->Prop) (hm:VC42 h_ l_ of Q) (h1:RS aC w0 X0 a1 h_.ae c1) (h2:RS aL w0 X0 a2 h_.al c2) (h3:RS ar w0 X0 a3 l_ c3) (h4:RS tI w0 X0 a4 of c4) :
  Ret Tryz.prog 42 #[.agg #[.slice a1 h_.ae.length c1,.slice a2 h_.al.length c2],.slice a3 l_.length c3,.slice a4 of.length c4] aM w0 X0 (fun w X' v=>∃ r,Q r/\∃ cQ cN,v=.tuple #[.slice cQ r.1.length cN,.int .i64 r.2]/\RS (fp av) w X' cQ r.1 cN):=by
 unfold VC42 at hm
 replace hm:=hm (h1.sm kr)
 replace hm:=hm (h2.sm kr)
 replace hm:=hm (h3.sm kr)
 replace hm:=hm (h4.sm kr)
 refine enter Tryz.func42 rfl (vals:=[.agg #[.slice a1 h_.ae.length c1,.slice a2 h_.al.length c2],.slice a3 l_.length c3,.slice a4 of.length c4]) kr ?_
 intro Z a hS hO hM
 replace h1:=h1.m0 hM
 replace h2:=h2.m0 hM
 replace h3:=h3.m0 hM
 replace h4:=h4.m0 hM
 refine rM T hS ⟨[(1,Sl a3 l_ c3),(3,Pt 4 0),(5,Pt 6 0)],[(4,(25,[Sl a1 h_.ae c1,Sl a2 h_.al c2])),(6,(43,[Sl a4 of c4]))]⟩ fun Z a O4 Ri hS hE hr=>?_
 replace hO:=hO.m2 hE
 replace h1:=h1.m1 hE
 replace h2:=h2.m1 hE
 replace h3:=h3.m1 hE
 replace h4:=h4.m1 hE
 clear hE hr
 refine rP T hS ⟨[(1,Sl a3 l_ c3),(3,Pt 4 0),(5,Pt 6 0),(8,V (.slice none 0 0))],[(4,(25,[Sl a1 h_.ae c1,Sl a2 h_.al c2])),(6,(43,[Sl a4 of c4]))]⟩ fun a hS=>?_
 refine cb (fun a w=>∃ (Z:Nat->Nat) (X:Nat->Nat) (bD:List (List aa)) (dw:Option Addr) (dv:Nat),VC42_J1 Q bD/\St Tryz.f42.ntmps ⟨[(8,Sl dw bD dv)],[]⟩ Z a w X/\Old w0 X0 w X/\OS (fp av) 26 w X 1007 dw bD dv) ?_ ?_
 ·refine rP T hS ⟨[(1,Sl a3 l_ c3),(5,Pt 6 0),(8,V (.slice none 0 0)),(17,Sl a1 h_.ae c1),(18,I (lN h_.ae)),(19,I 0)],[(6,(43,[Sl a4 of c4]))]⟩ fun a hS=>?_
  refine aQ ?_
  obtain ⟨I1,μ1,cJ,hm⟩:=hm
  refine cH (σ:=(List (List aa)) × Int) (fun s a w=>∃ Z X cA cz,I1 s.1 s.2/\St Tryz.f42.ntmps ⟨[(1,Sl a3 l_ c3),(5,Pt 6 0),(8,Sl cA s.1 cz),(17,Sl a1 h_.ae c1),(18,I (lN h_.ae)),(19,I s.2)],[(6,(43,[Sl a4 of c4]))]⟩ Z a w X/\Old w0 X0 w X/\RS ar w X a3 l_ c3/\OS (fp av) 26 w X 1007 cA s.1 cz/\RS aC w X a1 h_.ae c1/\RS tI w X a4 of c4) (fun s=>μ1 s.1 s.2) (⟨[],0⟩) ?_ ?_
  ·exact ⟨Z,_,none,0,cJ,hS.sl _,hO,h3,(OS.nil _ _ _ _ _),h1,h4⟩
  rintro ⟨dz,bg⟩ a Kv ⟨Z,MZ,cA,cz,hI,hS,hO,h107,h111,h112,h114⟩
  replace hm:=hm dz bg hI
  clear hI cJ
  refine rP T hS ⟨[(1,Sl a3 l_ c3),(5,Pt 6 0),(8,Sl cA dz cz),(17,Sl a1 h_.ae c1),(18,I (lN h_.ae)),(19,I bg),(20,B (decide (bg < (lN h_.ae))))],[(6,(43,[Sl a4 of c4]))]⟩ fun a hS=>?_
  refine bh ?_
  refine aI hS (b:=decide (bg < (lN h_.ae))) kr (fun hb=>?_) fun hb=>?_
  ·replace hm:=hm.1 hb
   refine aO (bh ?_)
   refine aQ ?_
   refine br ?_
   refine oP T hS 1 ⟨[(1,Sl a3 l_ c3),(5,Pt 6 0),(8,Sl cA dz cz),(17,Sl a1 h_.ae c1),(18,I (lN h_.ae)),(19,I bg),(21,I bg)],[(6,(43,[Sl a4 of c4]))]⟩ fun a hS=>?_
   obtain ⟨hq,hm⟩:=hm
   refine op1 (index (e:=48) (k:=.i64) T hS kr kr kr kr h112 kr kr hq.1 hq.2 ?_)
   intro NA a h116 hS
   refine op1 (eS T hS kr kr kr h116 kr kr ?_)
   intro v117 a hv hS
   obtain ⟨il,ik,hv,h120⟩:=hv
   subst hv
   replace hm:=hm (h120.sm kr)
   refine eM T hS ⟨[(1,Sl a3 l_ c3),(5,Pt 6 0),(8,Sl cA dz cz),(9,Pt 10 0),(10,Pt 11 0),(17,Sl a1 h_.ae c1),(18,I (lN h_.ae)),(19,I bg)],[(6,(43,[Sl a4 of c4])),(10,(3,[I bg])),(11,(48,(cO (gi h_.ae bg) il ik)))]⟩ fun Z a Kx M1 hS hE hr=>?_
   replace hO:=hO.m2 hE
   replace h107:=h107.m1 hE
   replace h111:=h111.m2 hE
   replace h112:=h112.m1 hE
   replace h114:=h114.m1 hE
   replace h120:=h120.m1 hE
   clear hE hr
   refine br ?_
   refine oP T hS 2 ⟨[(1,Sl a3 l_ c3),(5,Pt 6 0),(8,Sl cA dz cz),(9,Pt 10 0),(10,Pt 11 0),(17,Sl a1 h_.ae c1),(18,I (lN h_.ae)),(19,I bg),(24,Sl a4 of c4),(25,I bg)],[(6,(43,[Sl a4 of c4])),(10,(3,[I bg])),(11,(48,(cO (gi h_.ae bg) il ik)))]⟩ fun a hS=>?_
   obtain ⟨hq,hm⟩:=hm
   refine op1 (call hS kr kr hb69 kr (fun _ _=>rfl) (Ln _ _ of bg a4 c4 hq h114) ?_)
   intro v121 a uX uL hE hp hS
   replace hO:=hO.m2 hE
   replace h107:=h107.m1 hE
   replace h111:=h111.m2 hE
   replace h112:=h112.m1 hE
   replace h114:=h114.m1 hE
   replace h120:=h120.m1 hE
   obtain ⟨ja,iY,hp,h127⟩:=hp
   obtain ⟨dF,hr⟩:∃ r,aW of bg=r:=⟨_,rfl⟩
   replace hm:=hm dF hr
   rw [hr] at hp h127
   clear hr
   subst hp
   replace hm:=hm (h127.sm kr)
   refine eP T hS ⟨[(1,Sl a3 l_ c3),(5,Pt 6 0),(8,Sl cA dz cz),(9,Pt 10 0),(10,Pt 11 0),(11,Sl ja dF iY),(17,Sl a1 h_.ae c1),(18,I (lN h_.ae)),(19,I bg)],[(6,(43,[Sl a4 of c4])),(10,(3,[I bg])),(11,(48,(cO (gi h_.ae bg) il ik)))]⟩ fun a hS=>?_
   refine dB [6,10,11] mixed hS ?_
   intro r8 se hS hE hD hH
   replace hO:=hO.m2 hE
   replace h107:=h107.m1 hE
   replace h111:=h111.m2 hE
   replace h112:=h112.m1 hE
   replace h114:=h114.m1 hE
   replace h120:=h120.m1 hE
   replace h127:=h127.m1 hE
   refine tk T [0,1,2] [6,10,11] hS hH #[true,true,true,false,false,false,false,false,false,false] 7 ⟨[(1,Sl a3 l_ c3),(5,Pt 6 0),(8,Sl cA dz cz),(11,Sl ja dF iY),(17,Sl a1 h_.ae c1),(18,I (lN h_.ae)),(19,I bg),(28,V (.agg #[.int .i64 ((gi h_.ae bg).au),.int .i64 ((gi h_.ae bg).aA),.int .i64 ((gi h_.ae bg).aH),.slice il ((gi h_.ae bg).Rows).length ik])),(29,Sl a3 l_ c3),(30,.f (.func 72) [] [.p 6 0,.p 10 0])],[(6,(43,[Sl a4 of c4])),(10,(3,[I bg])),(11,(48,(cO (gi h_.ae bg) il ik)))]⟩ fun a hS=>?_
   obtain ⟨hq,hm⟩:=hm
   refine only 3 kr (by rfl) (l9 hS kr kr hb71 kr (xU _ _ l_ of bg a3 c3 a4 c4 (Z 6) 6 (Z 10) 10 hq h107 h114 (hS.cell (id:=6) (t:=43) (cs:=[Sl a4 of c4]) kr) (hS.cell (id:=10) (t:=3) (cs:=[I bg]) kr) ⟨by decide,by decide⟩) ?_)
   intro v130 a r7 rS hE hp hS
   replace hO:=hO.m2 hE
   replace hD:=hD.ev hE rfl
   replace h107:=h107.m1 hE
   replace h111:=h111.m2 hE
   replace h112:=h112.m1 hE
   replace h114:=h114.m1 hE
   replace h120:=h120.m1 hE
   replace h127:=h127.m1 hE
   obtain ⟨A6,AX,hp,h136,vM,Fo⟩:=hp
   obtain ⟨jN,hr⟩:∃ r,bz l_ of bg=r:=⟨_,rfl⟩
   replace hm:=hm jN hr
   rw [hr] at hp h136
   clear hr
   subst hp
   replace hm:=hm (h136.sm kr)
   replace hS:=hS.cI (id:=6) (t:=43) (cs:=[Sl a4 of c4]) kr vM
   replace hS:=hS.cI (id:=10) (t:=3) (cs:=[I bg]) kr Fo
   clear vM Fo
   replace hS:=hS.sl ⟨[(1,Sl a3 l_ c3),(5,Pt 6 0),(8,Sl cA dz cz),(11,Sl ja dF iY),(17,Sl a1 h_.ae c1),(18,I (lN h_.ae)),(19,I bg),(28,V (.agg #[.int .i64 ((gi h_.ae bg).au),.int .i64 ((gi h_.ae bg).aA),.int .i64 ((gi h_.ae bg).aH),.slice il ((gi h_.ae bg).Rows).length ik])),(29,Sl a3 l_ c3),(30,.f (.func 72) [] [.p 6 0,.p 10 0]),(31,Sl A6 jN AX)],[(6,(43,[Sl a4 of c4])),(10,(3,[I bg])),(11,(48,(cO (gi h_.ae bg) il ik)))]⟩
   refine da (bO.of hS (bks:=[6,10,11]) kr hD) ?_
   intro hH
   obtain ⟨hq,hm⟩:=hm
   refine only 4 kr (by rfl) (call hS kr kr hb70 kr (fun _ _=>rfl) (Lm _ _ (gi h_.ae bg) jN il ik A6 AX 1013 hq h120 h136) ?_)
   intro v139 a zZ Bc hE hp hS
   replace hO:=hO.m2 hE
   replace hD:=hD.ev hE rfl
   replace h107:=h107.m1 hE
   replace h111:=h111.m2 hE
   replace h112:=h112.m1 hE
   replace h114:=h114.m1 hE
   replace h120:=h120.m1 hE
   replace h127:=h127.m1 hE
   replace h136:=h136.m1 hE
   obtain ⟨gG,gF,hp,h145⟩:=hp
   obtain ⟨b9,hr⟩:∃ r,bn (gi h_.ae bg) jN=r:=⟨_,rfl⟩
   replace hm:=hm b9 hr
   rw [hr] at hp h145
   clear hr
   subst hp
   replace hm:=hm (h145.sm kr)
   replace hS:=hS.sl ⟨[(1,Sl a3 l_ c3),(5,Pt 6 0),(8,Sl cA dz cz),(11,Sl ja dF iY),(17,Sl a1 h_.ae c1),(18,I (lN h_.ae)),(19,I bg),(28,V (.agg #[.int .i64 ((gi h_.ae bg).au),.int .i64 ((gi h_.ae bg).aA),.int .i64 ((gi h_.ae bg).aH),.slice il ((gi h_.ae bg).Rows).length ik])),(29,Sl a3 l_ c3),(30,.f (.func 72) [] [.p 6 0,.p 10 0]),(31,Sl A6 jN AX),(32,V (.tuple #[.slice gG b9.1.length gF,.int .i64 b9.2]))],[(6,(43,[Sl a4 of c4])),(10,(3,[I bg])),(11,(48,(cO (gi h_.ae bg) il ik)))]⟩
   refine da (bO.of hS (bks:=[6,10,11]) kr hD) ?_
   intro hH
   refine tk T [5,6,7,8,9] [6,10,11] hS hH #[true,true,true,true,true,true,true,true,true,true] 0 ⟨[(1,Sl a3 l_ c3),(5,Pt 6 0),(8,Sl cA dz cz),(11,Sl ja dF iY),(12,Sl gG b9.1 gF),(13,I b9.2),(17,Sl a1 h_.ae c1),(18,I (lN h_.ae)),(19,I bg)],[(6,(43,[Sl a4 of c4])),(10,(3,[I bg])),(11,(48,(cO (gi h_.ae bg) il ik)))]⟩ fun a hS=>?_
   refine aY kr ?_
   replace hS:=hS.sl ⟨[(1,Sl a3 l_ c3),(5,Pt 6 0),(8,Sl cA dz cz),(11,Sl ja dF iY),(12,Sl gG b9.1 gF),(13,I b9.2),(17,Sl a1 h_.ae c1),(18,I (lN h_.ae)),(19,I bg)],[(6,(43,[Sl a4 of c4]))]⟩
   refine bh (rP T hS ⟨[(1,Sl a3 l_ c3),(5,Pt 6 0),(8,Sl cA dz cz),(11,Sl ja dF iY),(12,Sl gG b9.1 gF),(13,I b9.2),(17,Sl a1 h_.ae c1),(18,I (lN h_.ae)),(19,I bg),(36,B (b9.2 != 0))],[(6,(43,[Sl a4 of c4]))]⟩ fun a hS=>?_)
   refine aI hS (b:=(b9.2 != 0)) kr (fun hb=>?_) fun hb=>?_
   ·replace hm:=hm.1 hb
    refine rP T hS ⟨[(6,V (.slice none 0 0)),(7,I b9.2)],[]⟩ fun a hS=>?_
    refine ba ?_
    exact fin T hS hO (fun c=>c) rfl (r:=[.slice none 0 0,.int .i64 b9.2]) kr (fun X' hM hC=>⟨([],b9.2),hm,none,0,rfl,RS.empty _ _ _⟩)
   replace hm:=hm.2 hb
   refine aO ?_
   refine cb (fun a w=>∃ (Z:Nat->Nat) (X:Nat->Nat) (gL:List (List aa)) (gK:List aa) (Da:Option Addr) (CX:Nat) (A5:Option Addr) (AW:Nat),VC42_J2 I1 μ1 dz bg gL gK/\St Tryz.f42.ntmps ⟨[(1,Sl a3 l_ c3),(5,Pt 6 0),(8,Sl Da gL CX),(12,Sl A5 gK AW),(17,Sl a1 h_.ae c1),(18,I (lN h_.ae)),(19,I bg)],[(6,(43,[Sl a4 of c4]))]⟩ Z a w X/\Old w0 X0 w X/\RS ar w X a3 l_ c3/\OS (fp av) 26 w X 1007 Da gL CX/\OS av 56 w X 1013 A5 gK AW/\RS aC w X a1 h_.ae c1/\RS tI w X a4 of c4) ?_ ?_
   ·refine rP T hS ⟨[(1,Sl a3 l_ c3),(5,Pt 6 0),(8,Sl cA dz cz),(11,Sl ja dF iY),(12,Sl gG b9.1 gF),(17,Sl a1 h_.ae c1),(18,I (lN h_.ae)),(19,I bg),(38,Sl gG b9.1 gF),(39,I (lN b9.1)),(40,I 0)],[(6,(43,[Sl a4 of c4]))]⟩ fun a hS=>?_
    refine aQ ?_
    obtain ⟨I2,μ2,cJ,hm⟩:=hm
    refine cH (σ:=(List (List aa)) × (List aa) × Int) (fun s a w=>∃ Z X qc p9 kA kp,I2 s.1 s.2.1 s.2.2/\St Tryz.f42.ntmps ⟨[(1,Sl a3 l_ c3),(5,Pt 6 0),(8,Sl qc s.1 p9),(11,Sl ja dF iY),(12,Sl kA s.2.1 kp),(17,Sl a1 h_.ae c1),(18,I (lN h_.ae)),(19,I bg),(38,Sl kA s.2.1 kp),(39,I (lN b9.1)),(40,I s.2.2)],[(6,(43,[Sl a4 of c4]))]⟩ Z a w X/\Old w0 X0 w X/\RS ar w X a3 l_ c3/\OS (fp av) 26 w X 1007 qc s.1 p9/\RS tI w X ja dF iY/\OS av 56 w X 1013 kA s.2.1 kp/\RS aC w X a1 h_.ae c1/\RS tI w X a4 of c4) (fun s=>μ2 s.1 s.2.1 s.2.2) (⟨dz,b9.1,0⟩) ?_ ?_
    ·exact ⟨Z,_,cA,cz,gG,gF,cJ,hS.sl _,hO,h107,h111,h127,h145,h112,h114⟩
    rintro ⟨mT,gX,gb⟩ a O7 ⟨Z,Rk,qc,p9,kA,kp,hI,hS,hO,h168,h172,h173,h177,h178,h180⟩
    replace hm:=hm mT gX gb hI
    clear hI cJ
    refine rP T hS ⟨[(1,Sl a3 l_ c3),(5,Pt 6 0),(8,Sl qc mT p9),(11,Sl ja dF iY),(12,Sl kA gX kp),(17,Sl a1 h_.ae c1),(18,I (lN h_.ae)),(19,I bg),(38,Sl kA gX kp),(39,I (lN b9.1)),(40,I gb),(41,B (decide (gb < (lN b9.1))))],[(6,(43,[Sl a4 of c4]))]⟩ fun a hS=>?_
    refine bh ?_
    refine aI hS (b:=decide (gb < (lN b9.1))) kr (fun hb=>?_) fun hb=>?_
    ·replace hm:=hm.1 hb
     refine aO (bh ?_)
     refine aQ ?_
     refine br ?_
     refine oP T hS 1 ⟨[(1,Sl a3 l_ c3),(5,Pt 6 0),(8,Sl qc mT p9),(11,Sl ja dF iY),(12,Sl kA gX kp),(17,Sl a1 h_.ae c1),(18,I (lN h_.ae)),(19,I bg),(38,Sl kA gX kp),(39,I (lN b9.1)),(40,I gb),(42,I gb)],[(6,(43,[Sl a4 of c4]))]⟩ fun a hS=>?_
     obtain ⟨E8,hm⟩:=hm
     refine op1 (nO (E:=56) (k:=.i64) T hS kr kr kr kr h177 kr kr E8.1 E8.2 ?_)
     intro Nn a h183 h182 hS
     refine op1 (Cd T hS kr kr kr h182 kr kr ?_)
     intro v185 a hv hS
     subst hv
     refine eM T hS ⟨[(1,Sl a3 l_ c3),(5,Pt 6 0),(8,Sl qc mT p9),(11,Sl ja dF iY),(12,Sl kA gX kp),(14,I gb),(15,Pt 16 0),(17,Sl a1 h_.ae c1),(18,I (lN h_.ae)),(19,I bg),(38,Sl kA gX kp),(39,I (lN b9.1)),(40,I gb)],[(6,(43,[Sl a4 of c4])),(16,(56,(cK (gi gX gb))))]⟩ fun Z a HQ JS hS hE hr=>?_
     replace hO:=hO.m2 hE
     replace h168:=h168.m1 hE
     replace h172:=h172.m2 hE
     replace h173:=h173.m1 hE
     replace h177:=h177.m2 hE
     replace h178:=h178.m1 hE
     replace h180:=h180.m1 hE
     clear hE hr
     refine region ?_
     refine oP T hS 5 ⟨[(1,Sl a3 l_ c3),(5,Pt 6 0),(8,Sl qc mT p9),(11,Sl ja dF iY),(12,Sl kA gX kp),(17,Sl a1 h_.ae c1),(18,I (lN h_.ae)),(19,I bg),(38,Sl kA gX kp),(39,I (lN b9.1)),(40,I gb),(45,Sl kA gX kp),(46,I gb),(47,Sl ja dF iY),(49,I ((gi gX gb).Oper))],[(6,(43,[Sl a4 of c4]))]⟩ fun a hS=>?_
     obtain ⟨hq,hm⟩:=hm
     refine op1 (index (e:=3) (k:=.i64) T hS kr kr kr kr h173 kr kr hq.1 hq.2 ?_)
     intro RY a h187 hS
     refine op1 (eT T hS kr kr kr h187 rfl kr ?_)
     intro v188 a hv hS
     cases hv
     obtain ⟨zt,hm⟩:=hm
     refine op1 (nO (E:=56) (k:=.i64) T hS kr kr kr kr h177 kr kr zt.1 zt.2 ?_)
     intro RU a h191 h190 hS
     have h192:=h191.ad
     clear h191 h190
     refine op1 (ux (off:=0) (fsz:=1) (ft:=3) T hS kr kr kr h192 kr kr ?_)
     intro RP a h195 hS
     refine op1 (tD (m:=1) (off:=0) (x:=(⟨gi dF ((gi gX gb).Oper),(gi gX gb).Result⟩:aa)) (v:=I (gi dF ((gi gX gb).Oper))) (i:=gb.toNat) (E:=56) (xs:=gX) T hS kr kr kr kr h177 h195 (by have:=zt.1; have:=zt.2; (try simp only [List.length_set]); omega) kr kr rfl (fun _ _ _ h=>by cases h; rfl) ?_)
     intro a O8 hE h197 hS
     clear h177
     replace hO:=hO.m2 hE
     replace h168:=h168.m1 hE
     replace h172:=h172.m2 hE
     replace h173:=h173.m1 hE
     replace h178:=h178.m1 hE
     replace h180:=h180.m1 hE
     replace h187:=h187.m1 hE
     replace hS:=hS.conv (t:=12) (y:=.slice kA (gX.set gb.toNat (⟨gi dF ((gi gX gb).Oper),(gi gX gb).Result⟩:aa)).length kp) kr (by rw [List.length_set])
     replace hS:=hS.conv (t:=38) (y:=.slice kA (gX.set gb.toNat (⟨gi dF ((gi gX gb).Oper),(gi gX gb).Result⟩:aa)).length kp) kr (by rw [List.length_set])
     replace hS:=hS.conv (t:=45) (y:=.slice kA (gX.set gb.toNat (⟨gi dF ((gi gX gb).Oper),(gi gX gb).Result⟩:aa)).length kp) kr (by rw [List.length_set])
     refine iy ?_
     refine region (eP T hS ⟨[(1,Sl a3 l_ c3),(5,Pt 6 0),(8,Sl qc mT p9),(11,Sl ja dF iY),(12,Sl kA (gX.set gb.toNat (⟨gi dF ((gi gX gb).Oper),(gi gX gb).Result⟩:aa)) kp),(17,Sl a1 h_.ae c1),(18,I (lN h_.ae)),(19,I bg),(38,Sl kA (gX.set gb.toNat (⟨gi dF ((gi gX gb).Oper),(gi gX gb).Result⟩:aa)) kp),(39,I (lN b9.1)),(40,I (wR (gb+1)))],[(6,(43,[Sl a4 of c4]))]⟩ fun a hS=>?_)
     exact ⟨⟨mT,(gX.set gb.toNat (⟨gi dF ((gi gX gb).Oper),(gi gX gb).Result⟩:aa)),wR (gb+1)⟩,⟨Z,_,qc,p9,kA,kp,hm.1,hS.sl _,hO,h168,h172,h173,h197,h178,h180⟩,hm.2⟩
    replace hm:=hm.2 hb
    refine cu (by rfl) ?_
    exact ⟨Z,_,mT,gX,qc,p9,kA,kp,hm,hS.sl _,hO,h168,h172,h177,h178,h180⟩
   rintro a HP ⟨Z,M5,gL,gK,Da,CX,A5,AW,hm,hS,hO,h146,h150,h154,h155,h156⟩
   unfold VC42_J2 at hm
   refine region ?_
   refine oP T hS 2 ⟨[(1,Sl a3 l_ c3),(5,Pt 6 0),(8,Sl Da gL CX),(17,Sl a1 h_.ae c1),(18,I (lN h_.ae)),(19,I bg),(55,Sl Da gL CX),(56,Sl A5 gK AW)],[(6,(43,[Sl a4 of c4]))]⟩ fun a hS=>?_
   obtain ⟨EM,hE,hF⟩:=h154.freeze (by decide)
   replace hS:=hS.ev hE (c6 kr)
   replace hO:=hO.m2 hE
   replace h146:=h146.m1 hE
   replace h150:=h150.m2 hE
   replace h155:=h155.m1 hE
   replace h156:=h156.m1 hE
   have h158:=hF; clear hE hF
   refine op1 (lit (E:=26) (col:=0) (T:=(fp av)) (vals:=[.slice A5 gK.length AW]) (ys:=[gK]) T hS kr kr kr kr (by exact ⟨⟨A5,AW,rfl,h158⟩,trivial⟩) rfl kr kr kr kr ?_)
   intro b159 a Bp Db hE h162 hN hS
   clear hN
   replace hO:=hO.m2 hE
   replace h146:=h146.m1 hE
   replace h150:=h150.m2 hE
   replace h155:=h155.m1 hE
   replace h156:=h156.m1 hE
   replace h158:=h158.m1 hE
   replace h162:=h162.rs0
   obtain ⟨hq,hm⟩:=hm
   obtain ⟨news,hN⟩:=h162.src
   refine op1 (append (E:=26) (T:=(fp av)) (col:=1007) (xs:=gL) T hS kr kr kr kr h150 hN kr kr kr kr hq ?_)
   intro Hd G7 a KL Hk hE h165 hS
   clear hq hN
   clear h150
   replace hO:=hO.m2 hE
   replace h146:=h146.m1 hE
   replace h155:=h155.m1 hE
   replace h156:=h156.m1 hE
   replace h158:=h158.m1 hE
   replace h162:=h162.m1 hE
   refine eP T hS ⟨[(1,Sl a3 l_ c3),(5,Pt 6 0),(8,Sl Hd (gL++[gK]) G7),(17,Sl a1 h_.ae c1),(18,I (lN h_.ae)),(19,I bg)],[(6,(43,[Sl a4 of c4]))]⟩ fun a hS=>?_
   refine region (eP T hS ⟨[(1,Sl a3 l_ c3),(5,Pt 6 0),(8,Sl Hd (gL++[gK]) G7),(17,Sl a1 h_.ae c1),(18,I (lN h_.ae)),(19,I (wR (bg+1)))],[(6,(43,[Sl a4 of c4]))]⟩ fun a hS=>?_)
   exact ⟨⟨gL++[gK],wR (bg+1)⟩,⟨Z,_,Hd,G7,hm.1,hS.sl _,hO,h146,h165,h155,h156⟩,hm.2⟩
  replace hm:=hm.2 hb
  refine cu (by rfl) ?_
  exact ⟨Z,_,dz,cA,cz,hm,hS.sl _,hO,h111⟩
 rintro a HO ⟨Z,MX,bD,dw,dv,hm,hS,hO,h104⟩
 unfold VC42_J1 at hm
 refine rP T hS ⟨[(6,Sl dw bD dv),(7,I 0)],[]⟩ fun a hS=>?_
 refine ba ?_
 obtain ⟨pD,hE,hF⟩:=h104.freeze (by decide)
 replace hS:=hS.ev hE (c6 kr)
 replace hO:=hO.m2 hE
 have h106:=hF; clear hE hF
 exact fin T hS hO (fun c=>c) rfl (r:=[.slice dw bD.length dv,.int .i64 0]) kr (fun X' hM hC=>⟨(bD,0),hm,dw,dv,rfl,h106.m0 hM⟩)
theorem C42 (Ln:S69) (Lm:S70) (xU:S71_72) (v:∀ (h_:ak) (l_:List ab) (of:List Int),yO h_ l_ of->VC42 h_ l_ of (fun r=>r=cG h_ l_ of)):S42:=by
 intro w X h_ l_ of a1 c1 a2 c2 a3 c3 a4 c4   hp h1 h2 h3 h4
 refine (W42 Ln Lm xU w X h_ l_ of a1 c1 a2 c2 a3 c3 a4 c4   _ (v h_ l_ of hp) h1 h2 h3 h4).mono ?_
 rintro _ _ _ _ ⟨r,rfl,h⟩
 exact h
theorem W91 (w0) (X0) (n_:Int) (cM) (Q:(List aa)->Prop) (hm:VC91 n_ Q) :
  Ret Tryz.prog 91 #[.slice none 0 0,.int .i64 n_] aM w0 X0 (fun w X' v=>∃ r,Q r/\∃ cQ cN,v=.slice cQ r.length cN/\OS av 56 w X' cM cQ r cN):=by
 unfold VC91 at hm
 refine enter Tryz.func91 rfl (vals:=[.slice none 0 0,.int .i64 n_]) kr ?_
 intro Z a hS hO hM
 refine rPe T hS [] [] fun a hS=>?_
 refine bh ?_
 refine rPe T hS [] [(6,B (decide (n_ < 0)))] fun a hS=>?_
 refine aI hS (b:=decide (n_ < 0)) kr (fun hb=>?_) fun hb=>?_
 ·replace hm:=hm.1 hb
  exact hm.elim
 replace hm:=hm.2 hb
 refine aO ?_
 refine cb (fun a w=>∃ (Z:Nat->Nat) (X:Nat->Nat) (bD:List aa) (dw:Option Addr) (dv:Nat),VC91_J1 Q bD/\St Tryz.f91.ntmps ⟨[(0,Sl dw bD dv)],[]⟩ Z a w X/\Old w0 X0 w X/\OS av 56 w X 1001 dw bD dv) ?_ ?_
 ·refine br ?_
  refine oPe T hS 2 [6] [(8,I n_),(9,V (.slice none 0 0))] fun a hS=>?_
  refine op1 (Jr (E:=56) T hS kr kr kr kr ?_)
  intro a hS
  refine ePe T hS [8,9,10] [(1,I (wR (n_ - (wR (0 - 0)))))] fun a hS=>?_
  refine rPe T hS [] [(16,B (decide ((wR (n_ - (wR (0 - 0)))) > 0)))] fun a hS=>?_
  refine aI hS (b:=decide ((wR (n_ - (wR (0 - 0)))) > 0)) kr (fun hb=>?_) fun hb=>?_
  ·replace hm:=hm.1 hb
   refine region ?_
   refine oPe T hS 2 [16] [(17,V (.slice none 0 0)),(18,V (.slice none 0 0))] fun a hS=>?_
   refine op1 (Jr (E:=56) T hS kr kr kr kr ?_)
   intro a hS
   obtain ⟨hq,hm⟩:=hm
   refine op1 (BE (k:=.i64) (E:=56) (col:=1001) (T:=av) (xs:=([]:List aa)) (ad:=none) (c:=0) T hS kr kr kr kr (OS.nil _ _ _ _ _) kr kr hq.1 hq.2 ?_)
   intro a h105 hS
   clear h105
   replace hS:=hS.conv (t:=20) (y:=.slice none 0 0) kr (by rfl)
   refine oPe T hS 1 [1,17,18,19] [(21,I (wR (n_ - (wR (0 - 0)))))] fun a hS=>?_
   obtain ⟨hq,hm⟩:=hm
   refine op1 (EC (kn:=.i64) (E:=56) (T:=av) (col:=1001) (m:=wR (n_ - (wR (0 - 0)))) T (⟨0,0⟩:aa) hS kr kr kr kr kr kr kr kr kr hq.1 hq.2 (fun _ _=>rfl) ?_)
   intro cA cz a n6 n2 hE h108 hS
   replace hO:=hO.m2 hE
   refine oPe T hS 2 [20,21] [(24,I 0)] fun a hS=>?_
   obtain ⟨hq,hm⟩:=hm
   refine op1 (BE (k:=.i64) (E:=56) (col:=1001) (T:=av) (xs:=List.replicate (wR (n_ - (wR (0 - 0)))).toNat (⟨0,0⟩:aa)) (ad:=cA) (c:=cz) T hS kr kr kr kr h108 kr kr hq.1 hq.2 ?_)
   intro a h111 hS
   clear h108
   refine ePe T hS [24,25] [(0,Sl cA ((List.replicate (wR (n_ - (wR (0 - 0)))).toNat (⟨0,0⟩:aa)).take (0:Int).toNat) cz)] fun a hS=>?_
   exact ⟨Z,_,(List.replicate (wR (n_ - (wR (0 - 0)))).toNat (⟨0,0⟩:aa)).take (0:Int).toNat,cA,cz,hm,hS.sl _,hO,h111⟩
  replace hm:=hm.2 hb
  refine aO ?_
  exact ⟨Z,_,[],none,0,hm,hS.sl _,hO,(OS.nil _ _ _ _ _)⟩
 rintro a xi ⟨Z,uN,bD,dw,dv,hm,hS,hO,h104⟩
 unfold VC91_J1 at hm
 refine rPe T hS [0] [(4,Sl dw bD dv)] fun a hS=>?_
 refine ba ?_
 exact fin T hS hO (zAf0 cM) rfl (r:=[.slice dw bD.length dv]) kr (fun X' hM hC=>⟨bD,hm,dw,dv,rfl,(OS.out (f:=(zAf0 cM)) h104 hM hC kr)⟩)
theorem C91 (v:∀ (n_:Int),yX n_->VC91 n_ (fun r=>r=cr n_)):S91:=by
 intro w X n_  cM  hp 
 refine (W91 w X n_  cM  _ (v n_ hp)).mono ?_
 rintro _ _ _ _ ⟨r,rfl,h⟩
 exact h
theorem W73 (K9:S91) (w0) (X0) (bW:List (List aa)) (a1) (c1) (Q:(List aa)->Prop) (hm:VC73 bW Q) (h1:RS (fp av) w0 X0 a1 bW c1) :
  Ret Tryz.prog 73 #[.slice a1 bW.length c1] aM w0 X0 (fun w X' v=>∃ r,Q r/\∃ cQ cN,v=.slice cQ r.length cN/\RS av w X' cQ r cN):=by
 unfold VC73 at hm
 replace hm:=hm (h1.sm kr)
 refine enter Tryz.func73 rfl (vals:=[.slice a1 bW.length c1]) kr ?_
 intro Z a hS hO hM
 replace h1:=h1.m0 hM
 refine rPe T hS [] [] fun a hS=>?_
 refine rPe T hS [] [(3,I 0)] fun a hS=>?_
 refine cb (fun a w=>∃ (Z:Nat->Nat) (X:Nat->Nat) (bB:Int),VC73_J1 bW Q bB/\St Tryz.f73.ntmps ⟨[(0,Sl a1 bW c1),(3,I bB)],[]⟩ Z a w X/\Old w0 X0 w X/\RS (fp av) w X a1 bW c1) ?_ ?_
 ·refine rPe T hS [] [(9,Sl a1 bW c1),(10,I (lN bW)),(11,I 0)] fun a hS=>?_
  refine aQ ?_
  obtain ⟨I2,μ2,cJ,hm⟩:=hm
  refine cH (σ:=Int × Int) (fun s a w=>∃ Z X,I2 s.1 s.2/\St Tryz.f73.ntmps ⟨[(0,Sl a1 bW c1),(3,I s.1),(9,Sl a1 bW c1),(10,I (lN bW)),(11,I s.2)],[]⟩ Z a w X/\Old w0 X0 w X/\RS (fp av) w X a1 bW c1/\RS (fp av) w X a1 bW c1) (fun s=>μ2 s.1 s.2) (⟨0,0⟩) ?_ ?_
  ·exact ⟨Z,_,cJ,hS.sl _,hO,h1,h1⟩
  rintro ⟨zU,rZ⟩ a DL ⟨Z,J3,hI,hS,hO,h137,h139⟩
  replace hm:=hm zU rZ hI
  clear hI cJ
  refine rPe T hS [] [(12,B (decide (rZ < (lN bW))))] fun a hS=>?_
  refine bh ?_
  refine aI hS (b:=decide (rZ < (lN bW))) kr (fun hb=>?_) fun hb=>?_
  ·replace hm:=hm.1 hb
   refine aO (bh ?_)
   refine aQ ?_
   refine br ?_
   obtain ⟨hq,hm⟩:=hm
   refine op1 (index (e:=26) (k:=.i64) T hS kr kr kr kr h139 kr kr hq.1 hq.2 ?_)
   intro Sd a h142 hS
   refine op1 (eT T hS kr kr kr h142 rfl kr ?_)
   intro v143 a hv hS
   obtain ⟨wO,wD,hv,h146⟩:=hv
   cases hv
   replace hm:=hm (h146.sm kr)
   refine ePe T hS [12,13,14] [(5,Sl wO (gi bW rZ) wD)] fun a hS=>?_
   refine rPe T hS [5] [(3,I (wR (zU+(lN (gi bW rZ)))))] fun a hS=>?_
   refine rPe T hS [] [(20,B (decide ((wR (zU+(lN (gi bW rZ)))) < 0)))] fun a hS=>?_
   refine aI hS (b:=decide ((wR (zU+(lN (gi bW rZ)))) < 0)) kr (fun hb=>?_) fun hb=>?_
   ·replace hm:=hm.1 hb
    exact hm.elim
   replace hm:=hm.2 hb
   refine aO ?_
   refine region (ePe T hS [20] [(11,I (wR (rZ+1)))] fun a hS=>?_)
   exact ⟨⟨wR (zU+(lN (gi bW rZ))),wR (rZ+1)⟩,⟨Z,_,hm.1,hS.sl _,hO,h137,h139⟩,hm.2⟩
  replace hm:=hm.2 hb
  refine cu (by rfl) ?_
  exact ⟨Z,_,zU,hm,hS.sl _,hO,h137⟩
 rintro a DK ⟨Z,A9,bB,hm,hS,hO,h101⟩
 unfold VC73_J1 at hm
 refine br ?_
 refine oPe T hS 1 [3] [(23,I bB)] fun a hS=>?_
 obtain ⟨hq,hm⟩:=hm
 refine op1 (call hS kr kr hb91 kr (fun _ _=>rfl) (K9 _ _ bB 1003 hq) ?_)
 intro v103 a z6 pD hE hp hS
 replace hO:=hO.m2 hE
 replace h101:=h101.m1 hE
 obtain ⟨A7,AY,hp,h109⟩:=hp
 obtain ⟨gE,hr⟩:∃ r,cr bB=r:=⟨_,rfl⟩
 replace hm:=hm gE hr
 rw [hr] at hp h109
 clear hr
 subst hp
 replace hm:=hm (h109.sm kr)
 refine ePe T hS [23,24] [(6,Sl A7 gE AY)] fun a hS=>?_
 refine cb (fun a w=>∃ (Z:Nat->Nat) (X:Nat->Nat) (bK:List aa) (jb:Option Addr) (iZ:Nat),VC73_J2 Q bK/\St Tryz.f73.ntmps ⟨[(6,Sl jb bK iZ)],[]⟩ Z a w X/\Old w0 X0 w X/\OS av 56 w X 1003 jb bK iZ) ?_ ?_
 ·refine rPe T hS [0] [(25,Sl a1 bW c1),(26,I (lN bW)),(27,I 0)] fun a hS=>?_
  refine aQ ?_
  obtain ⟨I1,μ1,cJ,hm⟩:=hm
  refine cH (σ:=(List aa) × Int) (fun s a w=>∃ Z X lH lE,I1 s.1 s.2/\St Tryz.f73.ntmps ⟨[(6,Sl lH s.1 lE),(25,Sl a1 bW c1),(26,I (lN bW)),(27,I s.2)],[]⟩ Z a w X/\Old w0 X0 w X/\OS av 56 w X 1003 lH s.1 lE/\RS (fp av) w X a1 bW c1) (fun s=>μ1 s.1 s.2) (⟨gE,0⟩) ?_ ?_
  ·exact ⟨Z,_,A7,AY,cJ,hS.sl _,hO,h109,h101⟩
  rintro ⟨a9,iM⟩ a z1 ⟨Z,Nk,lH,lE,hI,hS,hO,h119,h120⟩
  replace hm:=hm a9 iM hI
  clear hI cJ
  refine rPe T hS [] [(28,B (decide (iM < (lN bW))))] fun a hS=>?_
  refine bh ?_
  refine aI hS (b:=decide (iM < (lN bW))) kr (fun hb=>?_) fun hb=>?_
  ·replace hm:=hm.1 hb
   refine aO (bh ?_)
   refine aQ ?_
   refine br ?_
   obtain ⟨hq,hm⟩:=hm
   refine op1 (index (e:=26) (k:=.i64) T hS kr kr kr kr h120 kr kr hq.1 hq.2 ?_)
   intro Dl a h123 hS
   refine op1 (eT T hS kr kr kr h123 rfl kr ?_)
   intro v124 a hv hS
   obtain ⟨ja,iY,hv,h127⟩:=hv
   cases hv
   replace hm:=hm (h127.sm kr)
   refine ePe T hS [28,29,30] [(8,Sl ja (gi bW iM) iY)] fun a hS=>?_
   refine region ?_
   refine oPe T hS 2 [8] [(31,Sl lH a9 lE),(32,Sl ja (gi bW iM) iY)] fun a hS=>?_
   obtain ⟨hq,hm⟩:=hm
   obtain ⟨news,hN⟩:=h127.src
   refine op1 (append (E:=56) (T:=av) (col:=1003) (xs:=a9) T hS kr kr kr kr h119 hN kr kr kr kr hq ?_)
   intro JR JD a r8 se hE h130 hS
   clear hq hN
   clear h119
   replace hO:=hO.m2 hE
   replace h120:=h120.m1 hE
   replace h127:=h127.m1 hE
   refine ePe T hS [32,33] [(6,Sl JR (a9++(gi bW iM)) JD)] fun a hS=>?_
   refine region (ePe T hS [] [(27,I (wR (iM+1)))] fun a hS=>?_)
   exact ⟨⟨a9++(gi bW iM),wR (iM+1)⟩,⟨Z,_,JR,JD,hm.1,hS.sl _,hO,h130,h120⟩,hm.2⟩
  replace hm:=hm.2 hb
  refine cu (by rfl) ?_
  exact ⟨Z,_,a9,lH,lE,hm,hS.sl _,hO,h119⟩
 rintro a tv ⟨Z,ym,bK,jb,iZ,hm,hS,hO,h113⟩
 unfold VC73_J2 at hm
 refine rPe T hS [6] [(2,Sl jb bK iZ)] fun a hS=>?_
 refine ba ?_
 obtain ⟨yu,hE,hF⟩:=h113.freeze (by decide)
 replace hS:=hS.ev hE (c6 kr)
 replace hO:=hO.m2 hE
 have h115:=hF; clear hE hF
 exact fin T hS hO (fun c=>c) rfl (r:=[.slice jb bK.length iZ]) kr (fun X' hM hC=>⟨bK,hm,jb,iZ,rfl,h115.m0 hM⟩)
theorem C73 (K9:S91) (v:∀ (bW:List (List aa)),sH bW->VC73 bW (fun r=>r=cc bW)):S73:=by
 intro w X bW a1 c1   hp h1
 refine (W73 K9 w X bW a1 c1   _ (v bW hp) h1).mono ?_
 rintro _ _ _ _ ⟨r,rfl,h⟩
 exact h
end Go.Proofs.YteahldlmkheleaaGreat
