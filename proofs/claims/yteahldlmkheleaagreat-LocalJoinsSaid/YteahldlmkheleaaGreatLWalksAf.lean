import Derived.Test.YteahldlmkheleaaGreatLWalksS
set_option linter.all false
namespace Go.Proofs.YteahldlmkheleaaGreat
open Go Go.Sv
abbrev zAf0 (cz:Nat):Nat->Nat:=fun c=>(bif Nat.beq c 1001 then cz else c)
set_option maxHeartbeats 1000000
theorem W28 (Fd:S45) (Fc:S50) (Fa:S58) (J9:S59) (w0) (X0) (objects:List al) (l_:List aH) (a1) (c1) (a2) (c2) (Q:Int × Int->Prop) (hm:VC28 objects l_ Q) (h1:RS az w0 X0 a1 objects c1) (h2:RS bJ w0 X0 a2 l_ c2) :
  Ret Tryz.prog 28 #[.slice a1 objects.length c1,.slice a2 l_.length c2] aJ w0 X0 (fun w X' v=>∃ r,Q r/\v=.tuple #[.int .i64 r.1,.int .i64 r.2]):=by
 unfold VC28 at hm
 replace hm:=hm (h1.sm kr)
 replace hm:=hm (h2.sm kr)
 refine enter Tryz.func28 rfl (vals:=[.slice a1 objects.length c1,.slice a2 l_.length c2]) kr ?_
 intro Z a hS hO hM
 replace h1:=h1.m0 hM
 replace h2:=h2.m0 hM
 refine rPe T hS [] [] fun a hS=>?_
 refine bd ?_
 refine rPe T hS [] [(20,B ((decide ((lN objects) < 1)) || (decide ((lN objects) > 8))))] (sp:=[16]) fun a hS=>?_
 refine aF hS (b:=((decide ((lN objects) < 1)) || (decide ((lN objects) > 8)))) kr (fun hb=>?_) fun hb=>?_
 ·replace hm:=hm.1 hb
  refine rPe T hS [0,1,20] [(4,I (-1)),(5,I 2)] fun a hS=>?_
  refine aZ ?_
  exact fin T hS hO (fun c=>c) rfl (r:=[.int .i64 (-1),.int .i64 2]) kr (fun X' hM hC=>⟨((-1),2),hm,rfl⟩)
 replace hm:=hm.2 hb
 refine aL ?_
 refine b5 (fun a w=>∃ Z X,VC28_J1 objects l_ Q/\St Tryz.f28.ntmps ⟨[(0,Sl a1 objects c1),(1,Sl a2 l_ c2)],[]⟩ Z a w X/\Old w0 X0 w X/\RS az w X a1 objects c1/\RS bJ w X a2 l_ c2) ?_ ?_
 ·refine rPe T hS [20] [(6,I 0)] fun a hS=>?_
  refine aN ?_
  obtain ⟨I2,μ2,cy,hm⟩:=hm
  refine cw (σ:=Int) (fun s a w=>∃ Z X,I2 s/\St Tryz.f28.ntmps ⟨[(0,Sl a1 objects c1),(1,Sl a2 l_ c2),(6,I s)],[]⟩ Z a w X/\Old w0 X0 w X/\RS az w X a1 objects c1/\RS bJ w X a2 l_ c2) (fun s=>μ2 s) (0) ?_ ?_
  ·exact ⟨Z,_,cy,hS.sl _,hO,h1,h2⟩
  rintro fC a ED ⟨Z,Dv,hI,hS,hO,h150,h151⟩
  replace hm:=hm fC hI
  clear hI cy
  refine bd ?_
  refine rPe T hS [] [(24,B (decide (fC < (lN objects))))] fun a hS=>?_
  refine aF hS (b:=decide (fC < (lN objects))) kr (fun hb=>?_) fun hb=>?_
  ·replace hm:=hm.1 hb
   refine aL (bd ?_)
   refine aN ?_
   refine bn ?_
   refine oPe T hS 2 [24] [(28,Sl a1 objects c1),(29,I fC)] fun a hS=>?_
   obtain ⟨hq,hm⟩:=hm
   refine op1 (index (e:=48) (k:=.i64) T hS kr kr kr kr h150 kr kr hq.1 hq.2 ?_)
   intro IJ a h154 hS
   refine op1 (eB T hS kr kr kr h154 kr kr ?_)
   intro v155 a hv hS
   obtain ⟨Lq,Lj,hv,h158⟩:=hv
   subst hv
   replace hm:=hm (h158.sm kr)
   refine op1 (call hS kr kr hb58 kr (fun _ _=>rfl) (Fa _ _ (gi objects fC) Lq Lj h158) ?_)
   intro v159 a Ac BV hE hp hS
   replace hO:=hO.m2 hE
   replace h150:=h150.m1 hE
   replace h151:=h151.m1 hE
   replace h154:=h154.m1 hE
   replace h158:=h158.m1 hE
   obtain ⟨t9,hr⟩:∃ r,cD (gi objects fC)=r:=⟨_,rfl⟩
   replace hm:=hm t9 hr
   rw [hr] at hp
   clear hr
   subst hp
   refine ePe T hS [28,29,30,31,32] [(8,I t9.2)] fun a hS=>?_
   refine rPe T hS [8] [(36,B (t9.2 != 0))] fun a hS=>?_
   refine aF hS (b:=(t9.2 != 0)) kr (fun hb=>?_) fun hb=>?_
   ·replace hm:=hm.1 hb
    refine rPe T hS [0,1,6,36] [(4,I (-1)),(5,I 2)] fun a hS=>?_
    refine aZ ?_
    exact fin T hS hO (fun c=>c) rfl (r:=[.int .i64 (-1),.int .i64 2]) kr (fun X' hM hC=>⟨((-1),2),hm,rfl⟩)
   replace hm:=hm.2 hb
   refine aL ?_
   refine region (ePe T hS [36] [(6,I (wR (fC+1)))] fun a hS=>?_)
   exact ⟨wR (fC+1),⟨Z,_,hm.1,hS.sl _,hO,h150,h151⟩,hm.2⟩
  replace hm:=hm.2 hb
  refine cl (by rfl) ?_
  exact ⟨Z,_,hm,hS.sl _,hO,h150,h151⟩
 rintro a GG ⟨Z,IA,hm,hS,hO,h101,h102⟩
 unfold VC28_J1 at hm
 refine bn ?_
 refine oPe T hS 1 [] [(38,Sl a2 l_ c2)] fun a hS=>?_
 obtain ⟨hq,hm⟩:=hm
 refine op1 (call hS kr kr hb45 kr (fun _ _=>rfl) (Fd _ _ l_ a2 c2 hq h102) ?_)
 intro v103 a yG oH hE hp hS
 replace hO:=hO.m2 hE
 replace h101:=h101.m1 hE
 replace h102:=h102.m1 hE
 obtain ⟨zS,zJ,hp,h109⟩:=hp
 obtain ⟨f8,hr⟩:∃ r,cC l_=r:=⟨_,rfl⟩
 replace hm:=hm f8 hr
 rw [hr] at hp h109
 clear hr
 subst hp
 replace hm:=hm (h109.sm kr)
 refine op1 (call hS kr kr hb50 kr (fun _ _=>rfl) (Fc _ _ f8 zS zJ h109) ?_)
 intro v110 a CA tG hE hp hS
 replace hO:=hO.m2 hE
 replace h101:=h101.m1 hE
 replace h102:=h102.m1 hE
 replace h109:=h109.m1 hE
 obtain ⟨fF,hr⟩:∃ r,eJ f8=r:=⟨_,rfl⟩
 replace hm:=hm fF hr
 rw [hr] at hp
 clear hr
 subst hp
 refine ePe T hS [38,39,40] [(9,I fF.1),(10,I fF.2)] fun a hS=>?_
 refine bd ?_
 refine rPe T hS [] [(44,B (fF.2 != 0))] fun a hS=>?_
 refine aF hS (b:=(fF.2 != 0)) kr (fun hb=>?_) fun hb=>?_
 ·replace hm:=hm.1 hb
  refine rPe T hS [0,1,9,10,44] [(4,I fF.1),(5,I fF.2)] fun a hS=>?_
  refine aZ ?_
  exact fin T hS hO (fun c=>c) rfl (r:=[.int .i64 fF.1,.int .i64 fF.2]) kr (fun X' hM hC=>⟨(fF.1,fF.2),hm,rfl⟩)
 replace hm:=hm.2 hb
 refine aL ?_
 refine b5 (fun a w=>∃ Z X,VC28_J2 l_ Q/\St Tryz.f28.ntmps ⟨[(1,Sl a2 l_ c2)],[]⟩ Z a w X/\Old w0 X0 w X/\RS bJ w X a2 l_ c2) ?_ ?_
 ·refine rPe T hS [9,10,44] [(11,I 0)] fun a hS=>?_
  refine aN ?_
  obtain ⟨I1,μ1,cy,hm⟩:=hm
  refine cw (σ:=Int) (fun s a w=>∃ Z X,I1 s/\St Tryz.f28.ntmps ⟨[(0,Sl a1 objects c1),(1,Sl a2 l_ c2),(11,I s)],[]⟩ Z a w X/\Old w0 X0 w X/\RS az w X a1 objects c1/\RS bJ w X a2 l_ c2) (fun s=>μ1 s) (0) ?_ ?_
  ·exact ⟨Z,_,cy,hS.sl _,hO,h101,h102⟩
  rintro dD a tO ⟨Z,zV,hI,hS,hO,h115,h116⟩
  replace hm:=hm dD hI
  clear hI cy
  refine bd ?_
  refine rPe T hS [] [(50,B (decide (dD < (lN l_))))] fun a hS=>?_
  refine aF hS (b:=decide (dD < (lN l_))) kr (fun hb=>?_) fun hb=>?_
  ·replace hm:=hm.1 hb
   refine aL (bd ?_)
   refine aN ?_
   refine bn ?_
   refine oPe T hS 2 [50] [(53,Sl a2 l_ c2),(54,I dD)] fun a hS=>?_
   obtain ⟨hq,hm⟩:=hm
   refine op1 (index (e:=77) (k:=.i64) T hS kr kr kr kr h116 kr kr hq.1 hq.2 ?_)
   intro Gd a h119 hS
   refine op1 (eB T hS kr kr kr h119 kr kr ?_)
   intro v120 a hv hS
   subst hv
   refine eM T hS ⟨[(0,Sl a1 objects c1),(1,Sl a2 l_ c2),(11,I dD),(12,Pt 13 0)],[(13,(77,[I ((gi l_ dD).aw),I (((gi l_ dD).aK).bh),I (((gi l_ dD).aK).ah),I (((gi l_ dD).aK).N)]))]⟩ fun Z a Cx zW hS hE hr=>?_
   replace hO:=hO.m2 hE
   replace h115:=h115.m1 hE
   replace h116:=h116.m1 hE
   clear hE hr
   refine bd ?_
   refine rPe T hS [] [(66,B ((decide (((gi l_ dD).aw) < 0)) || (decide (((gi l_ dD).aw)≥(lN objects)))))] (sp:=[60]) fun a hS=>?_
   refine aF hS (b:=((decide (((gi l_ dD).aw) < 0)) || (decide (((gi l_ dD).aw)≥(lN objects))))) kr (fun hb=>?_) fun hb=>?_
   ·replace hm:=hm.1 hb
    refine rP T hS ⟨[(4,I dD),(5,I 2)],[]⟩ fun a hS=>?_
    refine aZ ?_
    exact fin T hS hO (fun c=>c) rfl (r:=[.int .i64 dD,.int .i64 2]) kr (fun X' hM hC=>⟨(dD,2),hm,rfl⟩)
   replace hm:=hm.2 hb
   refine aL (bd ?_)
   refine b5 (fun a w=>∃ (Z:Nat->Nat) (X:Nat->Nat) (ib:Bool),VC28_J3 objects l_ Q I1 μ1 dD ib/\St Tryz.f28.ntmps ⟨[(0,Sl a1 objects c1),(1,Sl a2 l_ c2),(11,I dD),(12,Pt 13 0),(79,B ib)],[(13,(77,[I ((gi l_ dD).aw),I (((gi l_ dD).aK).bh),I (((gi l_ dD).aK).ah),I (((gi l_ dD).aK).N)]))]⟩ Z a w X/\Old w0 X0 w X/\RS az w X a1 objects c1/\RS bJ w X a2 l_ c2) ?_ ?_
   ·refine gH [13] mixed hS ?_
    intro sh vz hS hE hD hH
    replace hO:=hO.m2 hE
    replace h115:=h115.m1 hE
    replace h116:=h116.m1 hE
    refine tke T [0,1,2,3,4] [13] hS hH #[true,true,true,true,true,false,false,false,false,false,false,false] 7 [] [(72,B ((((gi l_ dD).aK).bh) == 2))] fun a hS=>?_
    rcases bft ((((gi l_ dD).aK).bh) == 2) with hb | hb
    ·replace hS:=hS.lit (t:=72) kr hb
     replace hm:=hm.1 hb
     refine tke T [5,6,8,9] [13] hS hH #[true,true,true,true,true,true,true,false,true,true,false,false] 3 [] [(73,Sl a2 l_ c2),(74,I dD),(77,I ((gi l_ dD).aw))] fun a hS=>?_
     obtain ⟨hq,hm⟩:=hm
     refine only 7 kr (by rfl) (call hS kr kr hb59 kr (fun _ _=>rfl) (J9 _ _ l_ dD a2 c2 hq h116) ?_)
     intro v138 a sg vy hE hp hS
     replace hO:=hO.m2 hE
     replace hD:=hD.ev hE rfl
     replace h115:=h115.m1 hE
     replace h116:=h116.m1 hE
     obtain ⟨wf,hr⟩:∃ r,fp l_ dD=r:=⟨_,rfl⟩
     replace hm:=hm wf hr
     rw [hr] at hp
     clear hr
     subst hp
     replace hS:=hS.sle [] [(75,I wf)]
     refine cV (bI.of hS (bks:=[13]) kr hD) ?_
     intro hH
     refine tke T [10,11] [13] hS hH (tts 12) 0 [72,73,74,77,75] [(79,B (wf != ((gi l_ dD).aw)))] fun a hS=>?_
     refine aV kr ?_
     replace hS:=hS.sle [] []
     exact ⟨Z,_,(wf != ((gi l_ dD).aw)),hm,hS.sl _,hO,h115,h116⟩
    replace hS:=hS.lit (t:=72) kr hb
    replace hm:=hm.2 hb
    refine tke T [5,6,8,7,9,10,11] [13] hS hH (tts 12) 0 [72] [(79,B false)] fun a hS=>?_
    refine aV kr ?_
    replace hS:=hS.sle [] []
    exact ⟨Z,_,false,hm,hS.sl _,hO,h115,h116⟩
   rintro a GK ⟨Z,LT,ib,hm,hS,hO,h121,h122⟩
   unfold VC28_J3 at hm
   refine aF hS (b:=ib) kr (fun hb=>?_) fun hb=>?_
   ·replace hm:=hm.1 hb
    refine rP T hS ⟨[(4,I dD),(5,I 32)],[]⟩ fun a hS=>?_
    refine aZ ?_
    exact fin T hS hO (fun c=>c) rfl (r:=[.int .i64 dD,.int .i64 32]) kr (fun X' hM hC=>⟨(dD,32),hm,rfl⟩)
   replace hm:=hm.2 hb
   refine aL ?_
   refine b5 (fun a w=>∃ (Z:Nat->Nat) (X:Nat->Nat) (mG:Bool),VC28_J4 Q I1 μ1 dD mG/\St Tryz.f28.ntmps ⟨[(0,Sl a1 objects c1),(1,Sl a2 l_ c2),(11,I dD),(96,B mG)],[]⟩ Z a w X/\Old w0 X0 w X/\RS az w X a1 objects c1/\RS bJ w X a2 l_ c2) ?_ ?_
   ·refine gH [13] mixed hS ?_
    intro si zY hS hE hD hH
    replace hO:=hO.m2 hE
    replace h121:=h121.m1 hE
    replace h122:=h122.m1 hE
    refine tke T [0,1,2,3,4] [13] hS hH #[true,true,true,true,true,false,false,false,false,false,false,false,false,false,false,false] 11 [] [(85,B ((((gi l_ dD).aK).bh) == 1))] fun a hS=>?_
    rcases bft ((((gi l_ dD).aK).bh) == 1) with hb | hb
    ·replace hS:=hS.lit (t:=85) kr hb
     replace hm:=hm.1 hb
     refine tke T [5,8,9,6,10,7] [13] hS hH #[true,true,true,true,true,true,true,true,true,true,true,false,false,false,false,false] 5 [12] [(88,I (((gi l_ dD).aK).N)),(89,Sl a1 objects c1),(91,I ((gi l_ dD).aw))] fun a hS=>?_
     obtain ⟨hq,hm⟩:=hm
     refine c6 (e:=48) (k:=.i64) T 11 hS kr kr kr (by rfl) kr hH kr kr h121 kr kr hq.1 hq.2 ?_
     intro L4 a h130 hS
     have Bo:=h130.here
     refine dh (off:=1) (fsz:=1) (ft:=3) (TF:=tI) (y:=(gi objects ((gi l_ dD).aw)).ax) 12 T hS kr kr kr (by rfl) kr hH kr h130 kr kr kr (fun cs h=>mE h) ?_
     intro IL a h132 fv hS
     have uO:=Bo
     rw [← fv] at uO
     clear fv
     refine dF T 13 hS kr kr kr (by rfl) kr hH kr h132 uO rfl kr ?_
     intro v133 a hv hS
     cases hv
     refine tke T [14,15] [13] hS hH (tts 16) 0 [85,88,89,91,92,93,94] [(96,B (decide ((((gi l_ dD).aK).N)≥((gi objects ((gi l_ dD).aw)).ax))))] fun a hS=>?_
     refine aV kr ?_
     replace hS:=hS.sl ⟨[(0,Sl a1 objects c1),(1,Sl a2 l_ c2),(11,I dD),(96,B (decide ((((gi l_ dD).aK).N)≥((gi objects ((gi l_ dD).aw)).ax))))],[]⟩
     exact ⟨Z,_,decide ((((gi l_ dD).aK).N)≥((gi objects ((gi l_ dD).aw)).ax)),hm,hS.sl _,hO,h121,h122⟩
    replace hS:=hS.lit (t:=85) kr hb
    replace hm:=hm.2 hb
    refine tke T [5,8,9,6,10,7,11,12,13,14,15] [13] hS hH (tts 16) 0 [12,85] [(96,B false)] fun a hS=>?_
    refine aV kr ?_
    replace hS:=hS.sl ⟨[(0,Sl a1 objects c1),(1,Sl a2 l_ c2),(11,I dD),(96,B false)],[]⟩
    exact ⟨Z,_,false,hm,hS.sl _,hO,h121,h122⟩
   rintro a Cz ⟨Z,BX,mG,hm,hS,hO,h124,h125⟩
   unfold VC28_J4 at hm
   refine aF hS (b:=mG) kr (fun hb=>?_) fun hb=>?_
   ·replace hm:=hm.1 hb
    refine rPe T hS [0,1,11,96] [(4,I dD),(5,I 31)] fun a hS=>?_
    refine aZ ?_
    exact fin T hS hO (fun c=>c) rfl (r:=[.int .i64 dD,.int .i64 31]) kr (fun X' hM hC=>⟨(dD,31),hm,rfl⟩)
   replace hm:=hm.2 hb
   refine aL ?_
   refine region (ePe T hS [96] [(11,I (wR (dD+1)))] fun a hS=>?_)
   exact ⟨wR (dD+1),⟨Z,_,hm.1,hS.sl _,hO,h124,h125⟩,hm.2⟩
  replace hm:=hm.2 hb
  refine cl (by rfl) ?_
  exact ⟨Z,_,hm,hS.sl _,hO,h116⟩
 rintro a EG ⟨Z,wV,hm,hS,hO,h114⟩
 unfold VC28_J2 at hm
 refine rPe T hS [1] [(4,I (lN l_)),(5,I 0)] fun a hS=>?_
 refine aZ ?_
 exact fin T hS hO (fun c=>c) rfl (r:=[.int .i64 (lN l_),.int .i64 0]) kr (fun X' hM hC=>⟨((lN l_),0),hm,rfl⟩)
theorem C28 (Fd:S45) (Fc:S50) (Fa:S58) (J9:S59) (v:∀ (objects:List al) (l_:List aH),ko objects l_->VC28 objects l_ (fun r=>r=du objects l_)):S28:=by
 intro w X objects l_ a1 c1 a2 c2   hp h1 h2
 refine (W28 Fd Fc Fa J9 w X objects l_ a1 c1 a2 c2   _ (v objects l_ hp) h1 h2).mono ?_
 rintro _ _ _ _ ⟨r,rfl,h⟩
 exact h
theorem W48 (w0) (X0) (i_:Int) (am:aj) (ap:Int) (a1) (c1) (a2) (c2) (b1) (i1) (b2) (i2) (Q:Bool->Prop) (hm:VC48 i_ am ap Q) (h1:RS az w0 X0 a1 am.ae c1) (h2:RS aI w0 X0 a2 am.ak c2) (ff:Cell w0 X0 b1 i1 25 [.slice a1 am.ae.length c1,.slice a2 am.ak.length c2]) (gE:Cell w0 X0 b2 i2 3 [.int .i64 ap]) (hA:dH [i1,i2]) :
  Ret Tryz.prog 48 #[.int .i64 i_,.pointer (some ⟨b1,0,none⟩),.pointer (some ⟨b2,0,none⟩)] (pR [i1,i2]) w0 X0 (fun w X' v=>∃ r,Q r/\v=.bool r/\Cell w X' b1 i1 25 [.slice a1 am.ae.length c1,.slice a2 am.ak.length c2]/\Cell w X' b2 i2 3 [.int .i64 ap]):=by
 unfold VC48 at hm
 replace hm:=hm (h1.sm kr)
 replace hm:=hm (h2.sm kr)
 refine fB Tryz.func48 rfl (dx [(i1,901),(i2,902)]) (fun id=>(bif Nat.beq id 901 then b1 else (bif Nat.beq id 902 then b2 else 0))) (args:=[I i_,Pt 901 0,Pt 902 0]) (bxs:=[(901,(25,[Sl a1 am.ae c1,Sl a2 am.ak c2])),(902,(3,[I ap]))]) kr rfl (bm.cons kr (ff.map (bK 0 hA.1 rfl)) (bm.cons kr (gE.map (bK 1 hA.1 rfl)) bm.nil)) (fm (fun q hq=>(hA.2 q.1 (List.mem_map.2 ⟨q,hq,rfl⟩)).1)) ?_
 intro a hS hO hM
 have hP:Pin [(901,b1),(902,b2)] (fun id=>(bif Nat.beq id 901 then b1 else (bif Nat.beq id 902 then b2 else 0))):=by intro q hq; simp at hq; rcases hq with rfl | rfl <;> rfl
 generalize (fun id=>(bif Nat.beq id 901 then b1 else (bif Nat.beq id 902 then b2 else 0)))=Z at hS hP
 clear ff gE
 replace h1:=h1.m0 hM
 replace h2:=h2.m0 hM
 refine rPe T hS [] [] fun a hS=>?_
 refine dq [901,902] mixed hS ?_
 intro n5 oI hS hE hD hH
 replace hO:=hO.m2 hE
 replace h1:=h1.m1 hE
 replace h2:=h2.m1 hE
 refine tke T [0,2,6,1] [901,902] hS hH #[true,true,true,false,false,false,true,false,false] 5 [0,1,2] [(6,Sl a2 am.ak c2),(7,I i_),(11,I ap)] fun a hS=>?_
 obtain ⟨hq,hm⟩:=hm
 refine c6 (e:=63) (k:=.i64) T 3 hS kr kr kr (by rfl) kr hH kr kr h2 kr kr hq.1 hq.2 ?_
 intro tJ a h104 hS
 have uR:=h104.here
 refine dh (off:=0) (fsz:=1) (ft:=3) (TF:=tI) (y:=(gi am.ak i_).aw) 4 T hS kr kr kr (by rfl) kr hH kr h104 kr kr kr (fun cs h=>jR h) ?_
 intro w9 a h106 fv hS
 have qw:=uR
 rw [← fv] at qw
 clear fv
 refine dF T 5 hS kr kr kr (by rfl) kr hH kr h106 qw rfl kr ?_
 intro v107 a hv hS
 cases hv
 refine tke T [7,8] [901,902] hS hH (tts 9) 0 [6,7,11,8,9,10] [(4,B (((gi am.ak i_).aw) == ap))] fun a hS=>?_
 refine aV kr ?_
 replace hS:=hS.sle [] []
 refine aZ ?_
 exact gF T hS hO (fun c h=>bS kr h) (fun c h=>bT (l:=[(i1,901),(i2,902)]) h) (bN [(i1,901),(i2,902)]) rfl (r:=[.bool (((gi am.ak i_).aw) == ap)]) kr (fun X' hM hC=>⟨(((gi am.ak i_).aw) == ap),hm,rfl,((hS.cell (id:=901) (t:=25) (cs:=[Sl a1 am.ae c1,Sl a2 am.ak c2]) kr).out (f:=(bN [(i1,901),(i2,902)])) hC kr kr (hP.at 0 rfl)),((hS.cell (id:=902) (t:=3) (cs:=[I ap]) kr).out (f:=(bN [(i1,901),(i2,902)])) hC kr kr (hP.at 1 rfl))⟩)
theorem C48 (v:∀ (i_:Int) (am:aj) (ap:Int),xv i_ am ap->VC48 i_ am ap (fun r=>r=eG i_ am ap)):S48:=by
 intro w X i_ am ap a1 c1 a2 c2  b1 i1 b2 i2 hp h1 h2 ff gE hA
 refine (W48 w X i_ am ap a1 c1 a2 c2  b1 i1 b2 i2 _ (v i_ am ap hp) h1 h2 ff gE hA).mono ?_
 rintro _ _ _ _ ⟨r,rfl,h⟩
 exact h
theorem W46_48 (Kf:S48) (w0) (X0) (l_:List au) (am:aj) (ap:Int) (a1) (c1) (a2) (c2) (a3) (c3) (b1) (i1) (b2) (i2) (Q:(List au)->Prop) (hm:VC46_48 l_ am ap Q) (h1:RS aO w0 X0 a1 l_ c1) (h2:RS az w0 X0 a2 am.ae c2) (h3:RS aI w0 X0 a3 am.ak c3) (ff:Cell w0 X0 b1 i1 25 [.slice a2 am.ae.length c2,.slice a3 am.ak.length c3]) (gE:Cell w0 X0 b2 i2 3 [.int .i64 ap]) (hA:dH [i1,i2]) :
  Ret Tryz.prog 46 #[.slice a1 l_.length c1,.func (.func 48) #[] #[.pointer (some ⟨b1,0,none⟩),.pointer (some ⟨b2,0,none⟩)]] (pR [i1,i2]) w0 X0 (fun w X' v=>∃ r,Q r/\∃ cB cA,v=.slice cB r.length cA/\RS aO w X' cB r cA/\Cell w X' b1 i1 25 [.slice a2 am.ae.length c2,.slice a3 am.ak.length c3]/\Cell w X' b2 i2 3 [.int .i64 ap]):=by
 unfold VC46_48 at hm
 replace hm:=hm (h1.sm kr)
 replace hm:=hm (h2.sm kr)
 replace hm:=hm (h3.sm kr)
 refine fB Tryz.func46 rfl (dx [(i1,901),(i2,902)]) (fun id=>(bif Nat.beq id 901 then b1 else (bif Nat.beq id 902 then b2 else 0))) (args:=[Sl a1 l_ c1,.f (.func 48) [] [.p 901 0,.p 902 0]]) (bxs:=[(901,(25,[Sl a2 am.ae c2,Sl a3 am.ak c3])),(902,(3,[I ap]))]) kr rfl (bm.cons kr (ff.map (bK 0 hA.1 rfl)) (bm.cons kr (gE.map (bK 1 hA.1 rfl)) bm.nil)) (fm (fun q hq=>(hA.2 q.1 (List.mem_map.2 ⟨q,hq,rfl⟩)).1)) ?_
 intro a hS hO hM
 have hP:Pin [(901,b1),(902,b2)] (fun id=>(bif Nat.beq id 901 then b1 else (bif Nat.beq id 902 then b2 else 0))):=by intro q hq; simp at hq; rcases hq with rfl | rfl <;> rfl
 generalize (fun id=>(bif Nat.beq id 901 then b1 else (bif Nat.beq id 902 then b2 else 0)))=Z at hS hP
 clear ff gE
 replace h1:=h1.m0 hM
 replace h2:=h2.m0 hM
 replace h3:=h3.m0 hM
 refine rPe T hS [] [] fun a hS=>?_
 refine rPe T hS [] [(5,V (.slice none 0 0))] fun a hS=>?_
 refine b5 (fun a w=>∃ (Z:Nat->Nat) (X:Nat->Nat) (bv:List au) (dk:Option Addr) (dj:Nat),VC46_48_J1 Q bv/\St Tryz.f46.ntmps ⟨[(5,Sl dk bv dj)],[(901,(25,[Sl a2 am.ae c2,Sl a3 am.ak c3])),(902,(3,[I ap]))]⟩ Z a w X/\fU (dx [(i1,901),(i2,902)]) w0 X0 w X/\Pin [(901,b1),(902,b2)] Z/\OS aO 61 w X 1005 dk bv dj/\RS az w X a2 am.ae c2/\RS aI w X a3 am.ak c3) ?_ ?_
 ·refine rPe T hS [0] [(8,Sl a1 l_ c1),(9,I (lN l_)),(10,I 0)] fun a hS=>?_
  refine aN ?_
  obtain ⟨I1,μ1,cy,hm⟩:=hm
  refine cw (σ:=(List au) × Int) (fun s a w=>∃ Z X gu gt,I1 s.1 s.2/\St Tryz.f46.ntmps ⟨[(1,.f (.func 48) [] [.p 901 0,.p 902 0]),(5,Sl gu s.1 gt),(8,Sl a1 l_ c1),(9,I (lN l_)),(10,I s.2)],[(901,(25,[Sl a2 am.ae c2,Sl a3 am.ak c3])),(902,(3,[I ap]))]⟩ Z a w X/\fU (dx [(i1,901),(i2,902)]) w0 X0 w X/\Pin [(901,b1),(902,b2)] Z/\OS aO 61 w X 1005 gu s.1 gt/\RS aO w X a1 l_ c1/\RS az w X a2 am.ae c2/\RS aI w X a3 am.ak c3) (fun s=>μ1 s.1 s.2) (⟨[],0⟩) ?_ ?_
  ·exact ⟨Z,_,none,0,cy,hS.sl _,hO,hP,(OS.nil _ _ _ _ _),h1,h2,h3⟩
  rintro ⟨cQ,ii⟩ a tO ⟨Z,zV,gu,gt,hI,hS,hO,hP,h112,h113,h115,h116⟩
  replace hm:=hm cQ ii hI
  clear hI cy
  refine rPe T hS [] [(11,B (decide (ii < (lN l_))))] fun a hS=>?_
  refine bd ?_
  refine aF hS (b:=decide (ii < (lN l_))) kr (fun hb=>?_) fun hb=>?_
  ·replace hm:=hm.1 hb
   refine aL ?_
   refine b5 (fun a w=>∃ (Z:Nat->Nat) (X:Nat->Nat) (dD:List au) (gT:Option Addr) (gS:Nat),VC46_48_J2 I1 μ1 cQ ii dD/\St Tryz.f46.ntmps ⟨[(1,.f (.func 48) [] [.p 901 0,.p 902 0]),(5,Sl gT dD gS),(8,Sl a1 l_ c1),(9,I (lN l_)),(10,I ii)],[(901,(25,[Sl a2 am.ae c2,Sl a3 am.ak c3])),(902,(3,[I ap]))]⟩ Z a w X/\fU (dx [(i1,901),(i2,902)]) w0 X0 w X/\Pin [(901,b1),(902,b2)] Z/\OS aO 61 w X 1005 gT dD gS/\RS aO w X a1 l_ c1/\RS az w X a2 am.ae c2/\RS aI w X a3 am.ak c3) ?_ ?_
   ·refine aN ?_
    refine bn ?_
    refine oPe T hS 1 [11] [(12,I ii)] fun a hS=>?_
    obtain ⟨hq,hm⟩:=hm
    refine op1 (index (e:=61) (k:=.i64) T hS kr kr kr kr h113 kr kr hq.1 hq.2 ?_)
    intro Gb a h125 hS
    refine op1 (eB T hS kr kr kr h125 kr kr ?_)
    intro v126 a hv hS
    subst hv
    refine eM T hS ⟨[(1,.f (.func 48) [] [.p 901 0,.p 902 0]),(5,Sl gu cQ gt),(6,I ii),(7,Pt 8 0),(8,Sl a1 l_ c1),(9,I (lN l_)),(10,I ii)],[(8,(61,(cE (gi l_ ii)))),(901,(25,[Sl a2 am.ae c2,Sl a3 am.ak c3])),(902,(3,[I ap]))]⟩ fun Z a qY ra hS hE hr=>?_
    replace hO:=hO.m2 hE
    replace h112:=h112.m2 hE
    replace h113:=h113.m1 hE
    replace h115:=h115.m1 hE
    replace h116:=h116.m1 hE
    replace hP:=hP.mv hr kr
    clear hE hr
    refine bn ?_
    refine oPe T hS 2 [6] [(15,.f (.func 48) [] [.p 901 0,.p 902 0]),(16,I ii)] fun a hS=>?_
    obtain ⟨hq,hm⟩:=hm
    refine op1 (jI (fi:=[]) (cp:=[.p 901 0,.p 902 0]) hS kr kr hb48 kr kr (Kf _ _ ii (⟨am.ae,am.ak⟩:aj) ap a2 c2 a3 c3 (Z 901) 901 (Z 902) 902 hq h115 h116 (hS.cell (id:=901) (t:=25) (cs:=[Sl a2 am.ae c2,Sl a3 am.ak c3]) kr) (hS.cell (id:=902) (t:=3) (cs:=[I ap]) kr) ⟨by decide,by decide⟩) ?_)
    intro v127 a q5 rb hE hp hS
    replace hO:=hO.m2 hE
    replace h112:=h112.m2 hE
    replace h113:=h113.m1 hE
    replace h115:=h115.m1 hE
    replace h116:=h116.m1 hE
    obtain ⟨hp,D9,D8⟩:=hp
    obtain ⟨sJ,hr⟩:∃ r,eG ii (⟨am.ae,am.ak⟩:aj) ap=r:=⟨_,rfl⟩
    replace hm:=hm sJ hr
    rw [hr] at hp
    clear hr
    subst hp
    replace hS:=hS.cx (id:=901) (t:=25) (cs:=[Sl a2 am.ae c2,Sl a3 am.ak c3]) kr D9
    replace hS:=hS.cx (id:=902) (t:=3) (cs:=[I ap]) kr D8
    clear D9 D8
    refine g8 ?_
    refine aF hS (b:=sJ) kr (fun hb=>?_) fun hb=>?_
    ·replace hm:=hm.1 hb
     refine region ?_
     refine oP T hS 2 ⟨[(1,.f (.func 48) [] [.p 901 0,.p 902 0]),(5,Sl gu cQ gt),(8,Sl a1 l_ c1),(9,I (lN l_)),(10,I ii),(18,Sl gu cQ gt),(19,V (.agg #[.int .i64 ((gi l_ ii).bh),.int .i64 ((gi l_ ii).ah),.int .i64 ((gi l_ ii).N)]))],[(901,(25,[Sl a2 am.ae c2,Sl a3 am.ak c3])),(902,(3,[I ap]))]⟩ fun a hS=>?_
     refine op1 (lit (E:=61) (col:=0) (T:=aO) (vals:=[.agg #[.int .i64 ((gi l_ ii).bh),.int .i64 ((gi l_ ii).ah),.int .i64 ((gi l_ ii).N)]]) (ys:=[(gi l_ ii)]) T hS kr kr kr kr (by exact ⟨rfl,trivial⟩) rfl kr kr kr kr ?_)
     intro b133 a yC wW hE h136 hN hS
     clear hN
     replace hO:=hO.m2 hE
     replace h112:=h112.m2 hE
     replace h113:=h113.m1 hE
     replace h115:=h115.m1 hE
     replace h116:=h116.m1 hE
     replace h136:=h136.rs0
     obtain ⟨hq,hm⟩:=hm
     obtain ⟨news,hN⟩:=h136.src
     refine op1 (append (E:=61) (T:=aO) (col:=1005) (xs:=cQ) T hS kr kr kr kr h112 hN kr kr kr kr hq ?_)
     intro lV lT a EH F6 hE h139 hS
     clear hq hN
     clear h112
     replace hO:=hO.m2 hE
     replace h113:=h113.m1 hE
     replace h115:=h115.m1 hE
     replace h116:=h116.m1 hE
     replace h136:=h136.m1 hE
     refine ePe T hS [19,20,21] [(5,Sl lV (cQ++[(gi l_ ii)]) lT)] fun a hS=>?_
     exact ⟨Z,_,cQ++[(gi l_ ii)],lV,lT,hm,hS.sl _,hO,hP,h139,h113,h115,h116⟩
    replace hm:=hm.2 hb
    refine aL ?_
    exact ⟨Z,_,cQ,gu,gt,hm,hS.sl _,hO,hP,h112,h113,h115,h116⟩
   rintro a Cw ⟨Z,P1,dD,gT,gS,hm,hS,hO,hP,h120,h121,h122,h123⟩
   unfold VC46_48_J2 at hm
   refine region (ePe T hS [] [(10,I (wR (ii+1)))] fun a hS=>?_)
   exact ⟨⟨dD,wR (ii+1)⟩,⟨Z,_,gT,gS,hm.1,hS.sl _,hO,hP,h120,h121,h122,h123⟩,hm.2⟩
  replace hm:=hm.2 hb
  refine cl (by rfl) ?_
  exact ⟨Z,_,cQ,gu,gt,hm,hS.sl _,hO,hP,h112,h115,h116⟩
 rintro a EG ⟨Z,wV,bv,dk,dj,hm,hS,hO,hP,h104,h105,h106⟩
 unfold VC46_48_J1 at hm
 refine rPe T hS [5] [(4,Sl dk bv dj)] fun a hS=>?_
 refine aZ ?_
 obtain ⟨ne,hE,hF⟩:=h104.freeze (by decide)
 replace hS:=hS.ev hE (cN kr)
 replace hO:=hO.m2 hE
 replace h105:=h105.m1 hE
 replace h106:=h106.m1 hE
 have h108:=hF; clear hE hF
 exact gF T hS hO (fun c h=>bS kr h) (fun c h=>bT (l:=[(i1,901),(i2,902)]) h) (bN [(i1,901),(i2,902)]) rfl (r:=[.slice dk bv.length dj]) kr (fun X' hM hC=>⟨bv,hm,dk,dj,rfl,h108.m0 hM,((hS.cell (id:=901) (t:=25) (cs:=[Sl a2 am.ae c2,Sl a3 am.ak c3]) kr).out (f:=(bN [(i1,901),(i2,902)])) hC kr kr (hP.at 0 rfl)),((hS.cell (id:=902) (t:=3) (cs:=[I ap]) kr).out (f:=(bN [(i1,901),(i2,902)])) hC kr kr (hP.at 1 rfl))⟩)
theorem C46_48 (Kf:S48) (v:∀ (l_:List au) (am:aj) (ap:Int),xx l_ am ap->VC46_48 l_ am ap (fun r=>r=bM l_ am ap)):S46_48:=by
 intro w X l_ am ap a1 c1 a2 c2 a3 c3  b1 i1 b2 i2 hp h1 h2 h3 ff gE hA
 refine (W46_48 Kf w X l_ am ap a1 c1 a2 c2 a3 c3  b1 i1 b2 i2 _ (v l_ am ap hp) h1 h2 h3 ff gE hA).mono ?_
 rintro _ _ _ _ ⟨r,rfl,h⟩
 exact h
theorem W17 (q8:S23) (wC:S46_48) (AC:S47) (Ke:S49) (w0) (X0) (h_:aj) (k_:Int) (a1) (c1) (a2) (c2) (Q:eZ->Prop) (hm:VC17 h_ k_ Q) (h1:RS az w0 X0 a1 h_.ae c1) (h2:RS aI w0 X0 a2 h_.ak c2) :
  Ret Tryz.prog 17 #[.agg #[.slice a1 h_.ae.length c1,.slice a2 h_.ak.length c2],.int .i64 k_] aJ w0 X0 (fun w X' v=>∃ r,Q r/\∃ cB cA iE iD,v=.agg #[.int .i64 r.aw.aq,.int .i64 r.aw.ax,.int .i64 r.aw.aE,.slice cB r.aw.Rows.length cA,.slice iE r.ak.length iD]/\RS ay w X' cB r.aw.Rows cA/\RS aO w X' iE r.ak iD):=by
 unfold VC17 at hm
 replace hm:=hm (h1.sm kr)
 replace hm:=hm (h2.sm kr)
 refine enter Tryz.func17 rfl (vals:=[.agg #[.slice a1 h_.ae.length c1,.slice a2 h_.ak.length c2],.int .i64 k_]) kr ?_
 intro Z a hS hO hM
 replace h1:=h1.m0 hM
 replace h2:=h2.m0 hM
 refine rM T hS ⟨[(2,Pt 3 0),(3,Pt 4 0),(4,Pt 5 0)],[(3,(25,[Sl a1 h_.ae c1,Sl a2 h_.ak c2])),(4,(3,[I k_])),(5,(51,[I 0,I 0,I 0,V (.slice none 0 0),V (.slice none 0 0)]))]⟩ fun Z a qY ra hS hE hr=>?_
 replace hO:=hO.m2 hE
 replace h1:=h1.m1 hE
 replace h2:=h2.m1 hE
 clear hE hr
 refine bd ?_
 refine bn ?_
 refine oPe T hS 1 [] [(10,V (.agg #[.slice a1 h_.ae.length c1,.slice a2 h_.ak.length c2]))] fun a hS=>?_
 obtain ⟨hq,hm⟩:=hm
 refine op1 (call hS kr kr hb23 kr (fun _ _=>rfl) (q8 _ _ h_ a1 c1 a2 c2 hq h1 h2) ?_)
 intro v101 a fh fo hE hp hS
 replace hO:=hO.m2 hE
 replace h1:=h1.m1 hE
 replace h2:=h2.m1 hE
 obtain ⟨av,hr⟩:∃ r,aA h_=r:=⟨_,rfl⟩
 replace hm:=hm av hr
 rw [hr] at hp
 clear hr
 subst hp
 refine ePe T hS [10,11] [(6,I av.2)] fun a hS=>?_
 refine rPe T hS [6] [(26,B (((av.2 != 0) || (decide (k_ < 0))) || (decide (k_≥(lN h_.ae)))))] (sp:=[16,20]) fun a hS=>?_
 refine aF hS (b:=(((av.2 != 0) || (decide (k_ < 0))) || (decide (k_≥(lN h_.ae))))) kr (fun hb=>?_) fun hb=>?_
 ·replace hm:=hm.1 hb
  refine rM T hS ⟨[(4,Pt 5 0)],[(5,(51,[I 0,I 0,I 0,V (.slice none 0 0),V (.slice none 0 0)]))]⟩ fun Z a mH lB hS hE hr=>?_
  replace hO:=hO.m2 hE
  clear hE hr
  refine aZ ?_
  exact fin T hS hO (fun c=>c) rfl (r:=[.agg #[.int .i64 0,.int .i64 0,.int .i64 0,.slice none 0 0,.slice none 0 0]]) kr (fun X' hM hC=>⟨(⟨(⟨0,0,0,[]⟩:al),[]⟩:eZ),hm,none,0,none,0,rfl,RS.empty _ _ _,RS.empty _ _ _⟩)
 replace hm:=hm.2 hb
 refine aL ?_
 refine bn ?_
 refine oPe T hS 1 [26] [(28,V (.agg #[.slice a1 h_.ae.length c1,.slice a2 h_.ak.length c2]))] fun a hS=>?_
 obtain ⟨hq,hm⟩:=hm
 refine op1 (call hS kr kr hb47 kr (fun _ _=>rfl) (AC _ _ h_ a1 c1 a2 c2 hq h1 h2) ?_)
 intro v107 a EK B2 hE hp hS
 replace hO:=hO.m2 hE
 replace h1:=h1.m1 hE
 replace h2:=h2.m1 hE
 obtain ⟨iz,ip,hp,h113⟩:=hp
 obtain ⟨fa,hr⟩:∃ r,bk h_=r:=⟨_,rfl⟩
 replace hm:=hm fa hr
 rw [hr] at hp h113
 clear hr
 subst hp
 replace hm:=hm (h113.sm kr)
 refine oPe T hS 1 [28] [(30,.f (.func 48) [] [.p 3 0,.p 4 0])] fun a hS=>?_
 obtain ⟨hq,hm⟩:=hm
 refine op1 (lv hS kr kr hb46 kr (wC _ _ fa h_ k_ iz ip a1 c1 a2 c2 (Z 3) 3 (Z 4) 4 hq h113 h1 h2 (hS.cell (id:=3) (t:=25) (cs:=[Sl a1 h_.ae c1,Sl a2 h_.ak c2]) kr) (hS.cell (id:=4) (t:=3) (cs:=[I k_]) kr) ⟨by decide,by decide⟩) ?_)
 intro v114 a o5 tF hE hp hS
 replace hO:=hO.m2 hE
 replace h1:=h1.m1 hE
 replace h2:=h2.m1 hE
 replace h113:=h113.m1 hE
 obtain ⟨gT,gS,hp,h120,rU,uI⟩:=hp
 obtain ⟨d4,hr⟩:∃ r,bM fa h_ k_=r:=⟨_,rfl⟩
 replace hm:=hm d4 hr
 rw [hr] at hp h120
 clear hr
 subst hp
 replace hm:=hm (h120.sm kr)
 replace hS:=hS.cx (id:=3) (t:=25) (cs:=[Sl a1 h_.ae c1,Sl a2 h_.ak c2]) kr rU
 replace hS:=hS.cx (id:=4) (t:=3) (cs:=[I k_]) kr uI
 clear rU uI
 refine ePe T hS [29,30,31] [(7,Sl gT d4 gS)] fun a hS=>?_
 refine bn ?_
 refine oP T hS 3 ⟨[(4,Pt 5 0),(7,Sl gT d4 gS),(33,Sl a1 h_.ae c1),(34,I k_)],[(5,(51,[I 0,I 0,I 0,V (.slice none 0 0),V (.slice none 0 0)]))]⟩ fun a hS=>?_
 obtain ⟨hq,hm⟩:=hm
 refine op1 (index (e:=48) (k:=.i64) T hS kr kr kr kr h1 kr kr hq.1 hq.2 ?_)
 intro DC a h124 hS
 refine op1 (eB T hS kr kr kr h124 kr kr ?_)
 intro v125 a hv hS
 obtain ⟨vx,vl,hv,h128⟩:=hv
 subst hv
 replace hm:=hm (h128.sm kr)
 refine eM T hS ⟨[(4,Pt 5 0),(7,Sl gT d4 gS),(8,Pt 9 0)],[(5,(51,[I 0,I 0,I 0,V (.slice none 0 0),V (.slice none 0 0)])),(9,(48,(cO (gi h_.ae k_) vx vl)))]⟩ fun Z a yB zX hS hE hr=>?_
 replace hO:=hO.m2 hE
 replace h120:=h120.m1 hE
 replace h128:=h128.m1 hE
 clear hE hr
 refine bn ?_
 refine oPe T hS 2 [] [(38,Sl vx ((gi h_.ae k_).Rows) vl)] fun a hS=>?_
 obtain ⟨hq,hm⟩:=hm
 refine op1 (call hS kr kr hb49 kr (fun _ _=>rfl) (Ke _ _ ((gi h_.ae k_).Rows) vx vl hq h128) ?_)
 intro v129 a tP BZ hE hp hS
 replace hO:=hO.m2 hE
 replace h120:=h120.m1 hE
 replace h128:=h128.m1 hE
 obtain ⟨oE,oA,hp,h135⟩:=hp
 obtain ⟨gr,hr⟩:∃ r,cS ((gi h_.ae k_).Rows)=r:=⟨_,rfl⟩
 replace hm:=hm gr hr
 rw [hr] at hp h135
 clear hr
 subst hp
 replace hm:=hm (h135.sm kr)
 refine eM T hS ⟨[(4,Pt 5 0),(7,Sl gT d4 gS),(8,Pt 9 0)],[(5,(51,[I 0,I 0,I 0,V (.slice none 0 0),V (.slice none 0 0)])),(9,(48,[I ((gi h_.ae k_).aq),I ((gi h_.ae k_).ax),I ((gi h_.ae k_).aE),Sl oE gr oA]))]⟩ fun Z a Cy F5 hS hE hr=>?_
 replace hO:=hO.m2 hE
 replace h120:=h120.m1 hE
 replace h135:=h135.m1 hE
 clear hE hr
 refine rM T hS ⟨[(4,Pt 5 0)],[(5,(51,[I ((gi h_.ae k_).aq),I ((gi h_.ae k_).ax),I ((gi h_.ae k_).aE),Sl oE gr oA,Sl gT d4 gS]))]⟩ fun Z a sh vz hS hE hr=>?_
 replace hO:=hO.m2 hE
 replace h120:=h120.m1 hE
 replace h135:=h135.m1 hE
 clear hE hr
 refine aZ ?_
 exact fin T hS hO (fun c=>c) rfl (r:=[.agg #[.int .i64 ((gi h_.ae k_).aq),.int .i64 ((gi h_.ae k_).ax),.int .i64 ((gi h_.ae k_).aE),.slice oE gr.length oA,.slice gT d4.length gS]]) kr (fun X' hM hC=>⟨(⟨(⟨(gi h_.ae k_).aq,(gi h_.ae k_).ax,(gi h_.ae k_).aE,gr⟩:al),d4⟩:eZ),hm,oE,oA,gT,gS,rfl,h135.m0 hM,h120.m0 hM⟩)
theorem C17 (q8:S23) (wC:S46_48) (AC:S47) (Ke:S49) (v:∀ (h_:aj) (k_:Int),uq h_ k_->VC17 h_ k_ (fun r=>r=dw h_ k_)):S17:=by
 intro w X h_ k_ a1 c1 a2 c2   hp h1 h2
 refine (W17 q8 wC AC Ke w X h_ k_ a1 c1 a2 c2   _ (v h_ k_ hp) h1 h2).mono ?_
 rintro _ _ _ _ ⟨r,rfl,h⟩
 exact h
theorem W24 (q8:S23) (AC:S47) (Kb:S56) (w0) (X0) (h_:aj) (a1) (c1) (a2) (c2) (Q:(List ab) × (List Int)->Prop) (hm:VC24 h_ Q) (h1:RS az w0 X0 a1 h_.ae c1) (h2:RS aI w0 X0 a2 h_.ak c2) :
  Ret Tryz.prog 24 #[.agg #[.slice a1 h_.ae.length c1,.slice a2 h_.ak.length c2]] aJ w0 X0 (fun w X' v=>∃ r,Q r/\∃ cB cA iE iD,v=.tuple #[.slice cB r.1.length cA,.slice iE r.2.length iD]/\RS ao w X' cB r.1 cA/\RS tI w X' iE r.2 iD):=by
 unfold VC24 at hm
 replace hm:=hm (h1.sm kr)
 replace hm:=hm (h2.sm kr)
 refine enter Tryz.func24 rfl (vals:=[.agg #[.slice a1 h_.ae.length c1,.slice a2 h_.ak.length c2]]) kr ?_
 intro Z a hS hO hM
 replace h1:=h1.m0 hM
 replace h2:=h2.m0 hM
 refine rM T hS ⟨[(1,Pt 2 0)],[(2,(25,[Sl a1 h_.ae c1,Sl a2 h_.ak c2]))]⟩ fun Z a Cs F3 hS hE hr=>?_
 replace hO:=hO.m2 hE
 replace h1:=h1.m1 hE
 replace h2:=h2.m1 hE
 clear hE hr
 refine bd ?_
 refine bn ?_
 refine oPe T hS 1 [] [(12,V (.agg #[.slice a1 h_.ae.length c1,.slice a2 h_.ak.length c2]))] fun a hS=>?_
 obtain ⟨hq,hm⟩:=hm
 refine op1 (call hS kr kr hb23 kr (fun _ _=>rfl) (q8 _ _ h_ a1 c1 a2 c2 hq h1 h2) ?_)
 intro v101 a fh fo hE hp hS
 replace hO:=hO.m2 hE
 replace h1:=h1.m1 hE
 replace h2:=h2.m1 hE
 obtain ⟨av,hr⟩:∃ r,aA h_=r:=⟨_,rfl⟩
 replace hm:=hm av hr
 rw [hr] at hp
 clear hr
 subst hp
 refine ePe T hS [12,13] [(5,I av.2)] fun a hS=>?_
 refine rPe T hS [5] [(17,B (av.2 != 0))] fun a hS=>?_
 refine aF hS (b:=(av.2 != 0)) kr (fun hb=>?_) fun hb=>?_
 ·replace hm:=hm.1 hb
  refine rP T hS ⟨[(2,V (.slice none 0 0)),(3,V (.slice none 0 0))],[]⟩ fun a hS=>?_
  refine aZ ?_
  exact fin T hS hO (fun c=>c) rfl (r:=[.slice none 0 0,.slice none 0 0]) kr (fun X' hM hC=>⟨([],[]),hm,none,0,none,0,rfl,RS.empty _ _ _,RS.empty _ _ _⟩)
 replace hm:=hm.2 hb
 refine aL ?_
 refine bn ?_
 refine oPe T hS 1 [17] [(19,V (.agg #[.slice a1 h_.ae.length c1,.slice a2 h_.ak.length c2]))] fun a hS=>?_
 obtain ⟨hq,hm⟩:=hm
 refine op1 (call hS kr kr hb47 kr (fun _ _=>rfl) (AC _ _ h_ a1 c1 a2 c2 hq h1 h2) ?_)
 intro v105 a nk ne hE hp hS
 replace hO:=hO.m2 hE
 replace h1:=h1.m1 hE
 replace h2:=h2.m1 hE
 obtain ⟨ci,ce,hp,h111⟩:=hp
 obtain ⟨a8,hr⟩:∃ r,bk h_=r:=⟨_,rfl⟩
 replace hm:=hm a8 hr
 rw [hr] at hp h111
 clear hr
 subst hp
 replace hm:=hm (h111.sm kr)
 refine op1 (call hS kr kr hb56 kr (fun _ _=>rfl) (Kb _ _ a8 ci ce h111) ?_)
 intro v112 a vS w6 hE hp hS
 replace hO:=hO.m2 hE
 replace h1:=h1.m1 hE
 replace h2:=h2.m1 hE
 replace h111:=h111.m1 hE
 obtain ⟨dZ,dY,hp,h118⟩:=hp
 obtain ⟨cU,hr⟩:∃ r,gw a8=r:=⟨_,rfl⟩
 replace hm:=hm cU hr
 rw [hr] at hp h118
 clear hr
 subst hp
 replace hm:=hm (h118.sm kr)
 refine ePe T hS [19,20,21] [(6,Sl dZ cU.1 dY)] fun a hS=>?_
 refine rPe T hS [] [(8,V (.slice none 0 0))] fun a hS=>?_
 refine b5 (fun a w=>∃ (Z:Nat->Nat) (X:Nat->Nat) (d1:List Int) (mr:Option Addr) (ml:Nat),VC24_J1 Q cU d1/\St Tryz.f24.ntmps ⟨[(6,Sl dZ cU.1 dY),(8,Sl mr d1 ml)],[]⟩ Z a w X/\Old w0 X0 w X/\RS ao w X dZ cU.1 dY/\OS tI 3 w X 1004 mr d1 ml) ?_ ?_
 ·refine rPe T hS [] [(24,Sl dZ cU.1 dY),(25,I (lN cU.1)),(26,I 0)] fun a hS=>?_
  refine aN ?_
  obtain ⟨I1,μ1,cy,hm⟩:=hm
  refine cw (σ:=(List Int) × Int) (fun s a w=>∃ Z X j6 jY,I1 s.1 s.2/\St Tryz.f24.ntmps ⟨[(1,Pt 2 0),(6,Sl dZ cU.1 dY),(8,Sl j6 s.1 jY),(24,Sl dZ cU.1 dY),(25,I (lN cU.1)),(26,I s.2)],[(2,(25,[Sl a1 h_.ae c1,Sl a2 h_.ak c2]))]⟩ Z a w X/\Old w0 X0 w X/\RS ao w X dZ cU.1 dY/\OS tI 3 w X 1004 j6 s.1 jY/\RS ao w X dZ cU.1 dY/\RS az w X a1 h_.ae c1/\RS aI w X a2 h_.ak c2) (fun s=>μ1 s.1 s.2) (⟨[],0⟩) ?_ ?_
  ·exact ⟨Z,_,none,0,cy,hS.sl _,hO,h118,(OS.nil _ _ _ _ _),h118,h1,h2⟩
  rintro ⟨d7,gy⟩ a EE ⟨Z,LS,j6,jY,hI,hS,hO,h126,h130,h131,h133,h134⟩
  replace hm:=hm d7 gy hI
  clear hI cy
  refine rPe T hS [] [(27,B (decide (gy < (lN cU.1))))] fun a hS=>?_
  refine bd ?_
  refine aF hS (b:=decide (gy < (lN cU.1))) kr (fun hb=>?_) fun hb=>?_
  ·replace hm:=hm.1 hb
   refine aL (bd ?_)
   refine aN ?_
   refine bn ?_
   obtain ⟨hq,hm⟩:=hm
   refine op1 (index (e:=102) (k:=.i64) T hS kr kr kr kr h131 kr kr hq.1 hq.2 ?_)
   intro IK a h136 hS
   refine op1 (eB T hS kr kr kr h136 kr kr ?_)
   intro v137 a hv hS
   subst hv
   refine eM T hS ⟨[(1,Pt 2 0),(6,Sl dZ cU.1 dY),(8,Sl j6 d7 jY),(10,Pt 11 0),(24,Sl dZ cU.1 dY),(25,I (lN cU.1)),(26,I gy)],[(2,(25,[Sl a1 h_.ae c1,Sl a2 h_.ak c2])),(11,(102,(cP (gi cU.1 gy))))]⟩ fun Z a GJ IB hS hE hr=>?_
   replace hO:=hO.m2 hE
   replace h126:=h126.m1 hE
   replace h130:=h130.m2 hE
   replace h131:=h131.m1 hE
   replace h133:=h133.m1 hE
   replace h134:=h134.m1 hE
   clear hE hr
   refine region ?_
   refine oP T hS 5 ⟨[(1,Pt 2 0),(6,Sl dZ cU.1 dY),(8,Sl j6 d7 jY),(24,Sl dZ cU.1 dY),(25,I (lN cU.1)),(26,I gy),(30,Sl j6 d7 jY),(32,Sl a2 h_.ak c2),(34,I ((gi cU.1 gy).aD))],[(2,(25,[Sl a1 h_.ae c1,Sl a2 h_.ak c2]))]⟩ fun a hS=>?_
   obtain ⟨hq,hm⟩:=hm
   refine op1 (index (e:=63) (k:=.i64) T hS kr kr kr kr h134 kr kr hq.1 hq.2 ?_)
   intro F9 a h139 hS
   refine op1 (fc (off:=0) (fsz:=1) (ft:=3) (TF:=tI) (y:=(gi h_.ak ((gi cU.1 gy).aD)).aw) T hS kr kr kr h139 kr kr kr (fun cs h=>jR h) ?_)
   intro F8 a h141 hS
   refine op1 (eC T hS kr kr kr h141 rfl kr ?_)
   intro v142 a hv hS
   cases hv
   refine op1 (lit (E:=3) (col:=0) (T:=tI) (vals:=[.int .i64 ((gi h_.ak ((gi cU.1 gy).aD)).aw)]) (ys:=[(gi h_.ak ((gi cU.1 gy).aD)).aw]) T hS kr kr kr kr (by exact ⟨rfl,trivial⟩) rfl kr kr kr kr ?_)
   intro b143 a Cx zW hE h146 hN hS
   clear hN
   replace hO:=hO.m2 hE
   replace h126:=h126.m1 hE
   replace h130:=h130.m2 hE
   replace h131:=h131.m1 hE
   replace h133:=h133.m1 hE
   replace h134:=h134.m1 hE
   replace h139:=h139.m1 hE
   replace h141:=h141.m1 hE
   replace h146:=h146.rs0
   obtain ⟨hq,hm⟩:=hm
   obtain ⟨news,hN⟩:=h146.src
   refine op1 (append (E:=3) (T:=tI) (col:=1004) (xs:=d7) T hS kr kr kr kr h130 hN kr kr kr kr hq ?_)
   intro tC tu a tO wV hE h149 hS
   clear hq hN
   clear h130
   replace hO:=hO.m2 hE
   replace h126:=h126.m1 hE
   replace h131:=h131.m1 hE
   replace h133:=h133.m1 hE
   replace h134:=h134.m1 hE
   replace h139:=h139.m1 hE
   replace h141:=h141.m1 hE
   replace h146:=h146.m1 hE
   refine ePe T hS [32,34,35,36,37,38,39] [(8,Sl tC (d7++[(gi h_.ak ((gi cU.1 gy).aD)).aw]) tu)] fun a hS=>?_
   refine region (ePe T hS [] [(26,I (wR (gy+1)))] fun a hS=>?_)
   exact ⟨⟨d7++[(gi h_.ak ((gi cU.1 gy).aD)).aw],wR (gy+1)⟩,⟨Z,_,tC,tu,hm.1,hS.sl _,hO,h126,h149,h131,h133,h134⟩,hm.2⟩
  replace hm:=hm.2 hb
  refine cl (by rfl) ?_
  exact ⟨Z,_,d7,j6,jY,hm,hS.sl _,hO,h126,h130⟩
 rintro a yA ⟨Z,BW,d1,mr,ml,hm,hS,hO,h119,h123⟩
 unfold VC24_J1 at hm
 refine rPe T hS [6,8] [(2,Sl dZ cU.1 dY),(3,Sl mr d1 ml)] fun a hS=>?_
 refine aZ ?_
 obtain ⟨wY,hE,hF⟩:=h123.freeze (by decide)
 replace hS:=hS.ev hE (cN kr)
 replace hO:=hO.m2 hE
 replace h119:=h119.m1 hE
 have h125:=hF; clear hE hF
 exact fin T hS hO (fun c=>c) rfl (r:=[.slice dZ cU.1.length dY,.slice mr d1.length ml]) kr (fun X' hM hC=>⟨(cU.1,d1),hm,dZ,dY,mr,ml,rfl,h119.m0 hM,h125.m0 hM⟩)
theorem C24 (q8:S23) (AC:S47) (Kb:S56) (v:∀ (h_:aj),fV h_->VC24 h_ (fun r=>r=cJ h_)):S24:=by
 intro w X h_ a1 c1 a2 c2   hp h1 h2
 refine (W24 q8 AC Kb w X h_ a1 c1 a2 c2   _ (v h_ hp) h1 h2).mono ?_
 rintro _ _ _ _ ⟨r,rfl,h⟩
 exact h
theorem W16 (G6:S18) (Fh:S28) (Fd:S45) (w0) (X0) (objects:List al) (l_:List aH) (a1) (c1) (a2) (c2) (Q:(List ab) × (List Int)->Prop) (hm:VC16 objects l_ Q) (h1:RS az w0 X0 a1 objects c1) (h2:RS bJ w0 X0 a2 l_ c2) :
  Ret Tryz.prog 16 #[.slice a1 objects.length c1,.slice a2 l_.length c2] aJ w0 X0 (fun w X' v=>∃ r,Q r/\∃ cB cA iE iD,v=.tuple #[.slice cB r.1.length cA,.slice iE r.2.length iD]/\RS ao w X' cB r.1 cA/\RS tI w X' iE r.2 iD):=by
 unfold VC16 at hm
 replace hm:=hm (h1.sm kr)
 replace hm:=hm (h2.sm kr)
 refine enter Tryz.func16 rfl (vals:=[.slice a1 objects.length c1,.slice a2 l_.length c2]) kr ?_
 intro Z a hS hO hM
 replace h1:=h1.m0 hM
 replace h2:=h2.m0 hM
 refine rPe T hS [] [] fun a hS=>?_
 refine bn ?_
 refine oPe T hS 2 [0] [(13,Sl a1 objects c1),(14,Sl a2 l_ c2)] fun a hS=>?_
 obtain ⟨hq,hm⟩:=hm
 refine op1 (call hS kr kr hb28 kr (fun _ _=>rfl) (Fh _ _ objects l_ a1 c1 a2 c2 hq h1 h2) ?_)
 intro v101 a fh fo hE hp hS
 replace hO:=hO.m2 hE
 replace h1:=h1.m1 hE
 replace h2:=h2.m1 hE
 obtain ⟨av,hr⟩:∃ r,du objects l_=r:=⟨_,rfl⟩
 replace hm:=hm av hr
 rw [hr] at hp
 clear hr
 subst hp
 refine ePe T hS [13,14,15] [(7,I av.2)] fun a hS=>?_
 refine bd ?_
 refine rPe T hS [7] [(19,B (av.2 != 0))] fun a hS=>?_
 refine aF hS (b:=(av.2 != 0)) kr (fun hb=>?_) fun hb=>?_
 ·replace hm:=hm.1 hb
  refine rPe T hS [1,19] [(4,V (.slice none 0 0)),(5,V (.slice none 0 0))] fun a hS=>?_
  refine aZ ?_
  exact fin T hS hO (fun c=>c) rfl (r:=[.slice none 0 0,.slice none 0 0]) kr (fun X' hM hC=>⟨([],[]),hm,none,0,none,0,rfl,RS.empty _ _ _,RS.empty _ _ _⟩)
 replace hm:=hm.2 hb
 refine aL ?_
 refine bn ?_
 refine oPe T hS 1 [19] [(21,Sl a2 l_ c2)] fun a hS=>?_
 obtain ⟨hq,hm⟩:=hm
 refine op1 (call hS kr kr hb45 kr (fun _ _=>rfl) (Fd _ _ l_ a2 c2 hq h2) ?_)
 intro v105 a nk ne hE hp hS
 replace hO:=hO.m2 hE
 replace h2:=h2.m1 hE
 obtain ⟨ci,ce,hp,h111⟩:=hp
 obtain ⟨a8,hr⟩:∃ r,cC l_=r:=⟨_,rfl⟩
 replace hm:=hm a8 hr
 rw [hr] at hp h111
 clear hr
 subst hp
 replace hm:=hm (h111.sm kr)
 refine op1 (call hS kr kr hb18 kr (fun _ _=>rfl) (G6 _ _ a8 ci ce h111) ?_)
 intro v112 a vS w6 hE hp hS
 replace hO:=hO.m2 hE
 replace h2:=h2.m1 hE
 replace h111:=h111.m1 hE
 obtain ⟨dZ,dY,hp,h118⟩:=hp
 obtain ⟨cU,hr⟩:∃ r,gh a8=r:=⟨_,rfl⟩
 replace hm:=hm cU hr
 rw [hr] at hp h118
 clear hr
 subst hp
 replace hm:=hm (h118.sm kr)
 refine ePe T hS [21,22,23] [(8,Sl dZ cU.1 dY)] fun a hS=>?_
 refine rPe T hS [] [(10,V (.slice none 0 0))] fun a hS=>?_
 refine b5 (fun a w=>∃ (Z:Nat->Nat) (X:Nat->Nat) (d1:List Int) (mr:Option Addr) (ml:Nat),VC16_J1 Q cU d1/\St Tryz.f16.ntmps ⟨[(8,Sl dZ cU.1 dY),(10,Sl mr d1 ml)],[]⟩ Z a w X/\Old w0 X0 w X/\RS ao w X dZ cU.1 dY/\OS tI 3 w X 1006 mr d1 ml) ?_ ?_
 ·refine rPe T hS [] [(11,I 0)] fun a hS=>?_
  refine aN ?_
  obtain ⟨I1,μ1,cy,hm⟩:=hm
  refine cw (σ:=(List Int) × Int) (fun s a w=>∃ Z X lj li,I1 s.1 s.2/\St Tryz.f16.ntmps ⟨[(1,Sl a2 l_ c2),(8,Sl dZ cU.1 dY),(10,Sl lj s.1 li),(11,I s.2)],[]⟩ Z a w X/\Old w0 X0 w X/\RS bJ w X a2 l_ c2/\RS ao w X dZ cU.1 dY/\OS tI 3 w X 1006 lj s.1 li) (fun s=>μ1 s.1 s.2) (⟨[],0⟩) ?_ ?_
  ·exact ⟨Z,_,none,0,cy,hS.sl _,hO,h2,h118,(OS.nil _ _ _ _ _)⟩
  rintro ⟨fL,gy⟩ a Ad ⟨Z,wU,lj,li,hI,hS,hO,h126,h127,h131⟩
  replace hm:=hm fL gy hI
  clear hI cy
  refine bd ?_
  refine rPe T hS [] [(29,B (decide (gy < (lN cU.1))))] fun a hS=>?_
  refine aF hS (b:=decide (gy < (lN cU.1))) kr (fun hb=>?_) fun hb=>?_
  ·replace hm:=hm.1 hb
   refine aL (bd ?_)
   refine aN ?_
   refine region ?_
   refine oPe T hS 4 [29] [(32,Sl lj fL li),(33,Sl a2 l_ c2),(34,Sl dZ cU.1 dY),(35,I gy)] fun a hS=>?_
   obtain ⟨hq,hm⟩:=hm
   refine op1 (index (e:=102) (k:=.i64) T hS kr kr kr kr h127 kr kr hq.1 hq.2 ?_)
   intro L3 a h134 hS
   refine op1 (fc (off:=2) (fsz:=1) (ft:=3) (TF:=tI) (y:=(gi cU.1 gy).aD) T hS kr kr kr h134 kr kr kr (fun cs h=>o3 h) ?_)
   intro IK a h136 hS
   refine op1 (eC T hS kr kr kr h136 rfl kr ?_)
   intro v137 a hv hS
   cases hv
   obtain ⟨hq,hm⟩:=hm
   refine op1 (index (e:=77) (k:=.i64) T hS kr kr kr kr h126 kr kr hq.1 hq.2 ?_)
   intro F9 a h139 hS
   refine op1 (fc (off:=0) (fsz:=1) (ft:=3) (TF:=tI) (y:=(gi l_ ((gi cU.1 gy).aD)).aw) T hS kr kr kr h139 kr kr kr (fun cs h=>lW h) ?_)
   intro F8 a h141 hS
   refine op1 (eC T hS kr kr kr h141 rfl kr ?_)
   intro v142 a hv hS
   cases hv
   refine op1 (lit (E:=3) (col:=0) (T:=tI) (vals:=[.int .i64 ((gi l_ ((gi cU.1 gy).aD)).aw)]) (ys:=[(gi l_ ((gi cU.1 gy).aD)).aw]) T hS kr kr kr kr (by exact ⟨rfl,trivial⟩) rfl kr kr kr kr ?_)
   intro b143 a Cx zW hE h146 hN hS
   clear hN
   replace hO:=hO.m2 hE
   replace h126:=h126.m1 hE
   replace h127:=h127.m1 hE
   replace h131:=h131.m2 hE
   replace h134:=h134.m1 hE
   replace h136:=h136.m1 hE
   replace h139:=h139.m1 hE
   replace h141:=h141.m1 hE
   replace h146:=h146.rs0
   obtain ⟨hq,hm⟩:=hm
   obtain ⟨news,hN⟩:=h146.src
   refine op1 (append (E:=3) (T:=tI) (col:=1006) (xs:=fL) T hS kr kr kr kr h131 hN kr kr kr kr hq ?_)
   intro tC tu a tO wV hE h149 hS
   clear hq hN
   clear h131
   replace hO:=hO.m2 hE
   replace h126:=h126.m1 hE
   replace h127:=h127.m1 hE
   replace h134:=h134.m1 hE
   replace h136:=h136.m1 hE
   replace h139:=h139.m1 hE
   replace h141:=h141.m1 hE
   replace h146:=h146.m1 hE
   refine ePe T hS [33,34,35,36,37,38,39,40,41,42,43] [(10,Sl tC (fL++[(gi l_ ((gi cU.1 gy).aD)).aw]) tu)] fun a hS=>?_
   refine region (ePe T hS [] [(11,I (wR (gy+1)))] fun a hS=>?_)
   exact ⟨⟨fL++[(gi l_ ((gi cU.1 gy).aD)).aw],wR (gy+1)⟩,⟨Z,_,tC,tu,hm.1,hS.sl _,hO,h126,h127,h149⟩,hm.2⟩
  replace hm:=hm.2 hb
  refine cl (by rfl) ?_
  exact ⟨Z,_,fL,lj,li,hm,hS.sl _,hO,h127,h131⟩
 rintro a EE ⟨Z,LS,d1,mr,ml,hm,hS,hO,h119,h123⟩
 unfold VC16_J1 at hm
 refine rPe T hS [8,10] [(4,Sl dZ cU.1 dY),(5,Sl mr d1 ml)] fun a hS=>?_
 refine aZ ?_
 obtain ⟨wY,hE,hF⟩:=h123.freeze (by decide)
 replace hS:=hS.ev hE (cN kr)
 replace hO:=hO.m2 hE
 replace h119:=h119.m1 hE
 have h125:=hF; clear hE hF
 exact fin T hS hO (fun c=>c) rfl (r:=[.slice dZ cU.1.length dY,.slice mr d1.length ml]) kr (fun X' hM hC=>⟨(cU.1,d1),hm,dZ,dY,mr,ml,rfl,h119.m0 hM,h125.m0 hM⟩)
theorem C16 (G6:S18) (Fh:S28) (Fd:S45) (v:∀ (objects:List al) (l_:List aH),ko objects l_->VC16 objects l_ (fun r=>r=cX objects l_)):S16:=by
 intro w X objects l_ a1 c1 a2 c2   hp h1 h2
 refine (W16 G6 Fh Fd w X objects l_ a1 c1 a2 c2   _ (v objects l_ hp) h1 h2).mono ?_
 rintro _ _ _ _ ⟨r,rfl,h⟩
 exact h
theorem W41 (q8:S23) (A1:S24) (w0) (X0) (h_:aj) (a1) (c1) (a2) (c2) (Q:(List ab) × (List Int) × Int->Prop) (hm:VC41 h_ Q) (h1:RS az w0 X0 a1 h_.ae c1) (h2:RS aI w0 X0 a2 h_.ak c2) :
  Ret Tryz.prog 41 #[.agg #[.slice a1 h_.ae.length c1,.slice a2 h_.ak.length c2]] aJ w0 X0 (fun w X' v=>∃ r,Q r/\∃ cB cA iE iD,v=.tuple #[.slice cB r.1.length cA,.slice iE r.2.1.length iD,.int .i64 r.2.2]/\RS ao w X' cB r.1 cA/\RS tI w X' iE r.2.1 iD):=by
 unfold VC41 at hm
 replace hm:=hm (h1.sm kr)
 replace hm:=hm (h2.sm kr)
 refine enter Tryz.func41 rfl (vals:=[.agg #[.slice a1 h_.ae.length c1,.slice a2 h_.ak.length c2]]) kr ?_
 intro Z a hS hO hM
 replace h1:=h1.m0 hM
 replace h2:=h2.m0 hM
 refine rM T hS ⟨[(1,Pt 2 0)],[(2,(25,[Sl a1 h_.ae c1,Sl a2 h_.ak c2]))]⟩ fun Z a o5 tF hS hE hr=>?_
 replace hO:=hO.m2 hE
 replace h1:=h1.m1 hE
 replace h2:=h2.m1 hE
 clear hE hr
 refine bd ?_
 refine bn ?_
 refine oPe T hS 1 [] [(10,V (.agg #[.slice a1 h_.ae.length c1,.slice a2 h_.ak.length c2]))] fun a hS=>?_
 obtain ⟨hq,hm⟩:=hm
 refine op1 (call hS kr kr hb23 kr (fun _ _=>rfl) (q8 _ _ h_ a1 c1 a2 c2 hq h1 h2) ?_)
 intro v101 a fh fo hE hp hS
 replace hO:=hO.m2 hE
 replace h1:=h1.m1 hE
 replace h2:=h2.m1 hE
 obtain ⟨av,hr⟩:∃ r,aA h_=r:=⟨_,rfl⟩
 replace hm:=hm av hr
 rw [hr] at hp
 clear hr
 subst hp
 refine ePe T hS [10,11] [(6,I av.2)] fun a hS=>?_
 refine rPe T hS [] [(15,B (av.2 != 0))] fun a hS=>?_
 refine aF hS (b:=(av.2 != 0)) kr (fun hb=>?_) fun hb=>?_
 ·replace hm:=hm.1 hb
  refine rP T hS ⟨[(2,V (.slice none 0 0)),(3,V (.slice none 0 0)),(4,I av.2)],[]⟩ fun a hS=>?_
  refine aZ ?_
  exact fin T hS hO (fun c=>c) rfl (r:=[.slice none 0 0,.slice none 0 0,.int .i64 av.2]) kr (fun X' hM hC=>⟨([],[],av.2),hm,none,0,none,0,rfl,RS.empty _ _ _,RS.empty _ _ _⟩)
 replace hm:=hm.2 hb
 refine aL ?_
 refine bn ?_
 refine oP T hS 1 ⟨[(18,V (.agg #[.slice a1 h_.ae.length c1,.slice a2 h_.ak.length c2]))],[]⟩ fun a hS=>?_
 obtain ⟨hq,hm⟩:=hm
 refine op1 (call hS kr kr hb24 kr (fun _ _=>rfl) (A1 _ _ h_ a1 c1 a2 c2 hq h1 h2) ?_)
 intro v105 a nk ne hE hp hS
 replace hO:=hO.m2 hE
 replace h1:=h1.m1 hE
 replace h2:=h2.m1 hE
 obtain ⟨ci,ce,d6,d5,hp,h111,h114⟩:=hp
 obtain ⟨a8,hr⟩:∃ r,cJ h_=r:=⟨_,rfl⟩
 replace hm:=hm a8 hr
 rw [hr] at hp h111 h114
 clear hr
 subst hp
 replace hm:=hm (h111.sm kr)
 replace hm:=hm (h114.sm kr)
 refine ePe T hS [18,19] [(7,Sl ci a8.1 ce),(8,Sl d6 a8.2 d5)] fun a hS=>?_
 refine bd ?_
 refine rPe T hS [] [(24,B (decide ((lN a8.1) > 20)))] fun a hS=>?_
 refine aF hS (b:=decide ((lN a8.1) > 20)) kr (fun hb=>?_) fun hb=>?_
 ·replace hm:=hm.1 hb
  refine rPe T hS [7,8,24] [(2,V (.slice none 0 0)),(3,V (.slice none 0 0)),(4,I 3)] fun a hS=>?_
  refine aZ ?_
  exact fin T hS hO (fun c=>c) rfl (r:=[.slice none 0 0,.slice none 0 0,.int .i64 3]) kr (fun X' hM hC=>⟨([],[],3),hm,none,0,none,0,rfl,RS.empty _ _ _,RS.empty _ _ _⟩)
 replace hm:=hm.2 hb
 refine aL ?_
 refine rPe T hS [7,8,24] [(2,Sl ci a8.1 ce),(3,Sl d6 a8.2 d5),(4,I 0)] fun a hS=>?_
 refine aZ ?_
 exact fin T hS hO (fun c=>c) rfl (r:=[.slice ci a8.1.length ce,.slice d6 a8.2.length d5,.int .i64 0]) kr (fun X' hM hC=>⟨(a8.1,a8.2,0),hm,ci,ce,d6,d5,rfl,h111.m0 hM,h114.m0 hM⟩)
theorem C41 (q8:S23) (A1:S24) (v:∀ (h_:aj),fV h_->VC41 h_ (fun r=>r=cb h_)):S41:=by
 intro w X h_ a1 c1 a2 c2   hp h1 h2
 refine (W41 q8 A1 w X h_ a1 c1 a2 c2   _ (v h_ hp) h1 h2).mono ?_
 rintro _ _ _ _ ⟨r,rfl,h⟩
 exact h
theorem W69 (w0) (X0) (of:List Int) (k_:Int) (a1) (c1) (Q:(List Int)->Prop) (hm:VC69 of k_ Q) (h1:RS tI w0 X0 a1 of c1) :
  Ret Tryz.prog 69 #[.slice a1 of.length c1,.int .i64 k_] aJ w0 X0 (fun w X' v=>∃ r,Q r/\∃ cB cA,v=.slice cB r.length cA/\RS tI w X' cB r cA):=by
 unfold VC69 at hm
 replace hm:=hm (h1.sm kr)
 refine enter Tryz.func69 rfl (vals:=[.slice a1 of.length c1,.int .i64 k_]) kr ?_
 intro Z a hS hO hM
 replace h1:=h1.m0 hM
 refine rPe T hS [] [] fun a hS=>?_
 refine rPe T hS [] [(5,V (.slice none 0 0))] fun a hS=>?_
 refine b5 (fun a w=>∃ (Z:Nat->Nat) (X:Nat->Nat) (bv:List Int) (dk:Option Addr) (dj:Nat),VC69_J1 Q bv/\St Tryz.f69.ntmps ⟨[(5,Sl dk bv dj)],[]⟩ Z a w X/\Old w0 X0 w X/\OS tI 3 w X 1005 dk bv dj) ?_ ?_
 ·refine rPe T hS [0] [(8,Sl a1 of c1),(9,I (lN of)),(10,I 0)] fun a hS=>?_
  refine aN ?_
  obtain ⟨I1,μ1,cy,hm⟩:=hm
  refine cw (σ:=(List Int) × Int) (fun s a w=>∃ Z X iC iB,I1 s.1 s.2/\St Tryz.f69.ntmps ⟨[(1,I k_),(5,Sl iC s.1 iB),(8,Sl a1 of c1),(9,I (lN of)),(10,I s.2)],[]⟩ Z a w X/\Old w0 X0 w X/\OS tI 3 w X 1005 iC s.1 iB/\RS tI w X a1 of c1) (fun s=>μ1 s.1 s.2) (⟨[],0⟩) ?_ ?_
  ·exact ⟨Z,_,none,0,cy,hS.sl _,hO,(OS.nil _ _ _ _ _),h1⟩
  rintro ⟨gB,cM⟩ a yD ⟨Z,qQ,iC,iB,hI,hS,hO,h110,h111⟩
  replace hm:=hm gB cM hI
  clear hI cy
  refine rPe T hS [] [(11,B (decide (cM < (lN of))))] fun a hS=>?_
  refine bd ?_
  refine aF hS (b:=decide (cM < (lN of))) kr (fun hb=>?_) fun hb=>?_
  ·replace hm:=hm.1 hb
   refine aL ?_
   refine b5 (fun a w=>∃ (Z:Nat->Nat) (X:Nat->Nat) (bc:List Int) (lA:Option Addr) (lz:Nat),VC69_J2 I1 μ1 gB cM bc/\St Tryz.f69.ntmps ⟨[(1,I k_),(5,Sl lA bc lz),(8,Sl a1 of c1),(9,I (lN of)),(10,I cM)],[]⟩ Z a w X/\Old w0 X0 w X/\OS tI 3 w X 1005 lA bc lz/\RS tI w X a1 of c1) ?_ ?_
   ·refine aN ?_
    refine bn ?_
    refine oPe T hS 1 [11] [(12,I cM)] fun a hS=>?_
    obtain ⟨hq,hm⟩:=hm
    refine op1 (index (e:=3) (k:=.i64) T hS kr kr kr kr h111 kr kr hq.1 hq.2 ?_)
    intro Gd a h119 hS
    refine op1 (eC T hS kr kr kr h119 rfl kr ?_)
    intro v120 a hv hS
    cases hv
    refine ePe T hS [12,13,14] [(6,I cM),(7,I (gi of cM))] fun a hS=>?_
    refine rPe T hS [7] [(17,B ((gi of cM) == k_))] fun a hS=>?_
    refine aF hS (b:=((gi of cM) == k_)) kr (fun hb=>?_) fun hb=>?_
    ·replace hm:=hm.1 hb
     refine region ?_
     refine oPe T hS 2 [6,17] [(18,Sl iC gB iB),(19,I cM)] fun a hS=>?_
     refine op1 (lit (E:=3) (col:=0) (T:=tI) (vals:=[.int .i64 cM]) (ys:=[cM]) T hS kr kr kr kr (by exact ⟨rfl,trivial⟩) rfl kr kr kr kr ?_)
     intro b121 a tR tE hE h124 hN hS
     clear hN
     replace hO:=hO.m2 hE
     replace h110:=h110.m2 hE
     replace h111:=h111.m1 hE
     replace h124:=h124.rs0
     obtain ⟨hq,hm⟩:=hm
     obtain ⟨news,hN⟩:=h124.src
     refine op1 (append (E:=3) (T:=tI) (col:=1005) (xs:=gB) T hS kr kr kr kr h110 hN kr kr kr kr hq ?_)
     intro j6 jY a yE wX hE h127 hS
     clear hq hN
     clear h110
     replace hO:=hO.m2 hE
     replace h111:=h111.m1 hE
     replace h124:=h124.m1 hE
     refine ePe T hS [19,20,21] [(5,Sl j6 (gB++[cM]) jY)] fun a hS=>?_
     exact ⟨Z,_,gB++[cM],j6,jY,hm,hS.sl _,hO,h127,h111⟩
    replace hm:=hm.2 hb
    refine aL ?_
    exact ⟨Z,_,gB,iC,iB,hm,hS.sl _,hO,h110,h111⟩
   rintro a qZ ⟨Z,Dy,bc,lA,lz,hm,hS,hO,h116,h117⟩
   unfold VC69_J2 at hm
   refine region (ePe T hS [] [(10,I (wR (cM+1)))] fun a hS=>?_)
   exact ⟨⟨bc,wR (cM+1)⟩,⟨Z,_,lA,lz,hm.1,hS.sl _,hO,h116,h117⟩,hm.2⟩
  replace hm:=hm.2 hb
  refine cl (by rfl) ?_
  exact ⟨Z,_,gB,iC,iB,hm,hS.sl _,hO,h110⟩
 rintro a Cz ⟨Z,BX,bv,dk,dj,hm,hS,hO,h104⟩
 unfold VC69_J1 at hm
 refine rPe T hS [5] [(4,Sl dk bv dj)] fun a hS=>?_
 refine aZ ?_
 obtain ⟨oH,hE,hF⟩:=h104.freeze (by decide)
 replace hS:=hS.ev hE (cN kr)
 replace hO:=hO.m2 hE
 have h106:=hF; clear hE hF
 exact fin T hS hO (fun c=>c) rfl (r:=[.slice dk bv.length dj]) kr (fun X' hM hC=>⟨bv,hm,dk,dj,rfl,h106.m0 hM⟩)
theorem C69 (v:∀ (of:List Int) (k_:Int),rA of k_->VC69 of k_ (fun r=>r=aS of k_)):S69:=by
 intro w X of k_ a1 c1   hp h1
 refine (W69 w X of k_ a1 c1   _ (v of k_ hp) h1).mono ?_
 rintro _ _ _ _ ⟨r,rfl,h⟩
 exact h
theorem W72 (w0) (X0) (i_:Int) (am:List Int) (ap:Int) (a1) (c1) (b1) (i1) (b2) (i2) (Q:Bool->Prop) (hm:VC72 i_ am ap Q) (h1:RS tI w0 X0 a1 am c1) (ff:Cell w0 X0 b1 i1 43 [.slice a1 am.length c1]) (gE:Cell w0 X0 b2 i2 3 [.int .i64 ap]) (hA:dH [i1,i2]) :
  Ret Tryz.prog 72 #[.int .i64 i_,.pointer (some ⟨b1,0,none⟩),.pointer (some ⟨b2,0,none⟩)] (pR [i1,i2]) w0 X0 (fun w X' v=>∃ r,Q r/\v=.bool r/\Cell w X' b1 i1 43 [.slice a1 am.length c1]/\Cell w X' b2 i2 3 [.int .i64 ap]):=by
 unfold VC72 at hm
 replace hm:=hm (h1.sm kr)
 refine fB Tryz.func72 rfl (dx [(i1,901),(i2,902)]) (fun id=>(bif Nat.beq id 901 then b1 else (bif Nat.beq id 902 then b2 else 0))) (args:=[I i_,Pt 901 0,Pt 902 0]) (bxs:=[(901,(43,[Sl a1 am c1])),(902,(3,[I ap]))]) kr rfl (bm.cons kr (ff.map (bK 0 hA.1 rfl)) (bm.cons kr (gE.map (bK 1 hA.1 rfl)) bm.nil)) (fm (fun q hq=>(hA.2 q.1 (List.mem_map.2 ⟨q,hq,rfl⟩)).1)) ?_
 intro a hS hO hM
 have hP:Pin [(901,b1),(902,b2)] (fun id=>(bif Nat.beq id 901 then b1 else (bif Nat.beq id 902 then b2 else 0))):=by intro q hq; simp at hq; rcases hq with rfl | rfl <;> rfl
 generalize (fun id=>(bif Nat.beq id 901 then b1 else (bif Nat.beq id 902 then b2 else 0)))=Z at hS hP
 clear ff gE
 replace h1:=h1.m0 hM
 refine rPe T hS [] [] fun a hS=>?_
 refine dq [901,902] mixed hS ?_
 intro n5 oI hS hE hD hH
 replace hO:=hO.m2 hE
 replace h1:=h1.m1 hE
 refine tke T [0,1,4] [901,902] hS hH #[true,true,false,false,true,false,false] 4 [0,1,2] [(5,Sl a1 am c1),(6,I i_),(9,I ap)] fun a hS=>?_
 obtain ⟨hq,hm⟩:=hm
 refine c6 (e:=3) (k:=.i64) T 2 hS kr kr kr (by rfl) kr hH kr kr h1 kr kr hq.1 hq.2 ?_
 intro tJ a h104 hS
 have uR:=h104.here
 refine dF T 3 hS kr kr kr (by rfl) kr hH kr h104 uR rfl kr ?_
 intro v105 a hv hS
 cases hv
 refine tke T [5,6] [901,902] hS hH (tts 7) 0 [5,6,9,7,8] [(4,B ((gi am i_) == ap))] fun a hS=>?_
 refine aV kr ?_
 replace hS:=hS.sle [] []
 refine aZ ?_
 exact gF T hS hO (fun c h=>bS kr h) (fun c h=>bT (l:=[(i1,901),(i2,902)]) h) (bN [(i1,901),(i2,902)]) rfl (r:=[.bool ((gi am i_) == ap)]) kr (fun X' hM hC=>⟨((gi am i_) == ap),hm,rfl,((hS.cell (id:=901) (t:=43) (cs:=[Sl a1 am c1]) kr).out (f:=(bN [(i1,901),(i2,902)])) hC kr kr (hP.at 0 rfl)),((hS.cell (id:=902) (t:=3) (cs:=[I ap]) kr).out (f:=(bN [(i1,901),(i2,902)])) hC kr kr (hP.at 1 rfl))⟩)
theorem C72 (v:∀ (i_:Int) (am:List Int) (ap:Int),sK i_ am ap->VC72 i_ am ap (fun r=>r=di i_ am ap)):S72:=by
 intro w X i_ am ap a1 c1  b1 i1 b2 i2 hp h1 ff gE hA
 refine (W72 w X i_ am ap a1 c1  b1 i1 b2 i2 _ (v i_ am ap hp) h1 ff gE hA).mono ?_
 rintro _ _ _ _ ⟨r,rfl,h⟩
 exact h
theorem W71_72 (J1:S72) (w0) (X0) (l_:List ab) (am:List Int) (ap:Int) (a1) (c1) (a2) (c2) (b1) (i1) (b2) (i2) (Q:(List ab)->Prop) (hm:VC71_72 l_ am ap Q) (h1:RS ao w0 X0 a1 l_ c1) (h2:RS tI w0 X0 a2 am c2) (ff:Cell w0 X0 b1 i1 43 [.slice a2 am.length c2]) (gE:Cell w0 X0 b2 i2 3 [.int .i64 ap]) (hA:dH [i1,i2]) :
  Ret Tryz.prog 71 #[.slice a1 l_.length c1,.func (.func 72) #[] #[.pointer (some ⟨b1,0,none⟩),.pointer (some ⟨b2,0,none⟩)]] (pR [i1,i2]) w0 X0 (fun w X' v=>∃ r,Q r/\∃ cB cA,v=.slice cB r.length cA/\RS ao w X' cB r cA/\Cell w X' b1 i1 43 [.slice a2 am.length c2]/\Cell w X' b2 i2 3 [.int .i64 ap]):=by
 unfold VC71_72 at hm
 replace hm:=hm (h1.sm kr)
 replace hm:=hm (h2.sm kr)
 refine fB Tryz.func71 rfl (dx [(i1,901),(i2,902)]) (fun id=>(bif Nat.beq id 901 then b1 else (bif Nat.beq id 902 then b2 else 0))) (args:=[Sl a1 l_ c1,.f (.func 72) [] [.p 901 0,.p 902 0]]) (bxs:=[(901,(43,[Sl a2 am c2])),(902,(3,[I ap]))]) kr rfl (bm.cons kr (ff.map (bK 0 hA.1 rfl)) (bm.cons kr (gE.map (bK 1 hA.1 rfl)) bm.nil)) (fm (fun q hq=>(hA.2 q.1 (List.mem_map.2 ⟨q,hq,rfl⟩)).1)) ?_
 intro a hS hO hM
 have hP:Pin [(901,b1),(902,b2)] (fun id=>(bif Nat.beq id 901 then b1 else (bif Nat.beq id 902 then b2 else 0))):=by intro q hq; simp at hq; rcases hq with rfl | rfl <;> rfl
 generalize (fun id=>(bif Nat.beq id 901 then b1 else (bif Nat.beq id 902 then b2 else 0)))=Z at hS hP
 clear ff gE
 replace h1:=h1.m0 hM
 replace h2:=h2.m0 hM
 refine rPe T hS [] [] fun a hS=>?_
 refine rPe T hS [] [(5,V (.slice none 0 0))] fun a hS=>?_
 refine b5 (fun a w=>∃ (Z:Nat->Nat) (X:Nat->Nat) (bv:List ab) (dk:Option Addr) (dj:Nat),VC71_72_J1 Q bv/\St Tryz.f71.ntmps ⟨[(5,Sl dk bv dj)],[(901,(43,[Sl a2 am c2])),(902,(3,[I ap]))]⟩ Z a w X/\fU (dx [(i1,901),(i2,902)]) w0 X0 w X/\Pin [(901,b1),(902,b2)] Z/\OS ao 102 w X 1005 dk bv dj/\RS tI w X a2 am c2) ?_ ?_
 ·refine rPe T hS [0] [(8,Sl a1 l_ c1),(9,I (lN l_)),(10,I 0)] fun a hS=>?_
  refine aN ?_
  obtain ⟨I1,μ1,cy,hm⟩:=hm
  refine cw (σ:=(List ab) × Int) (fun s a w=>∃ Z X ci ce,I1 s.1 s.2/\St Tryz.f71.ntmps ⟨[(1,.f (.func 72) [] [.p 901 0,.p 902 0]),(5,Sl ci s.1 ce),(8,Sl a1 l_ c1),(9,I (lN l_)),(10,I s.2)],[(901,(43,[Sl a2 am c2])),(902,(3,[I ap]))]⟩ Z a w X/\fU (dx [(i1,901),(i2,902)]) w0 X0 w X/\Pin [(901,b1),(902,b2)] Z/\OS ao 102 w X 1005 ci s.1 ce/\RS ao w X a1 l_ c1/\RS tI w X a2 am c2) (fun s=>μ1 s.1 s.2) (⟨[],0⟩) ?_ ?_
  ·exact ⟨Z,_,none,0,cy,hS.sl _,hO,hP,(OS.nil _ _ _ _ _),h1,h2⟩
  rintro ⟨dn,bc⟩ a Cx ⟨Z,ra,ci,ce,hI,hS,hO,hP,h111,h112,h114⟩
  replace hm:=hm dn bc hI
  clear hI cy
  refine rPe T hS [] [(11,B (decide (bc < (lN l_))))] fun a hS=>?_
  refine bd ?_
  refine aF hS (b:=decide (bc < (lN l_))) kr (fun hb=>?_) fun hb=>?_
  ·replace hm:=hm.1 hb
   refine aL ?_
   refine b5 (fun a w=>∃ (Z:Nat->Nat) (X:Nat->Nat) (bi:List ab) (dZ:Option Addr) (dY:Nat),VC71_72_J2 I1 μ1 dn bc bi/\St Tryz.f71.ntmps ⟨[(1,.f (.func 72) [] [.p 901 0,.p 902 0]),(5,Sl dZ bi dY),(8,Sl a1 l_ c1),(9,I (lN l_)),(10,I bc)],[(901,(43,[Sl a2 am c2])),(902,(3,[I ap]))]⟩ Z a w X/\fU (dx [(i1,901),(i2,902)]) w0 X0 w X/\Pin [(901,b1),(902,b2)] Z/\OS ao 102 w X 1005 dZ bi dY/\RS ao w X a1 l_ c1/\RS tI w X a2 am c2) ?_ ?_
   ·refine aN ?_
    refine bn ?_
    refine oPe T hS 1 [11] [(12,I bc)] fun a hS=>?_
    obtain ⟨hq,hm⟩:=hm
    refine op1 (index (e:=102) (k:=.i64) T hS kr kr kr kr h112 kr kr hq.1 hq.2 ?_)
    intro Gc a h122 hS
    refine op1 (eB T hS kr kr kr h122 kr kr ?_)
    intro v123 a hv hS
    subst hv
    refine eM T hS ⟨[(1,.f (.func 72) [] [.p 901 0,.p 902 0]),(5,Sl ci dn ce),(6,I bc),(7,Pt 8 0),(8,Sl a1 l_ c1),(9,I (lN l_)),(10,I bc)],[(8,(102,(cP (gi l_ bc)))),(901,(43,[Sl a2 am c2])),(902,(3,[I ap]))]⟩ fun Z a sg vy hS hE hr=>?_
    replace hO:=hO.m2 hE
    replace h111:=h111.m2 hE
    replace h112:=h112.m1 hE
    replace h114:=h114.m1 hE
    replace hP:=hP.mv hr kr
    clear hE hr
    refine bn ?_
    refine oPe T hS 2 [6] [(15,.f (.func 72) [] [.p 901 0,.p 902 0]),(16,I bc)] fun a hS=>?_
    obtain ⟨hq,hm⟩:=hm
    refine op1 (jI (fi:=[]) (cp:=[.p 901 0,.p 902 0]) hS kr kr hb72 kr kr (J1 _ _ bc am ap a2 c2 (Z 901) 901 (Z 902) 902 hq h114 (hS.cell (id:=901) (t:=43) (cs:=[Sl a2 am c2]) kr) (hS.cell (id:=902) (t:=3) (cs:=[I ap]) kr) ⟨by decide,by decide⟩) ?_)
    intro v124 a yE wX hE hp hS
    replace hO:=hO.m2 hE
    replace h111:=h111.m2 hE
    replace h112:=h112.m1 hE
    replace h114:=h114.m1 hE
    obtain ⟨hp,Ea,uH⟩:=hp
    obtain ⟨yW,hr⟩:∃ r,di bc am ap=r:=⟨_,rfl⟩
    replace hm:=hm yW hr
    rw [hr] at hp
    clear hr
    subst hp
    replace hS:=hS.cx (id:=901) (t:=43) (cs:=[Sl a2 am c2]) kr Ea
    replace hS:=hS.cx (id:=902) (t:=3) (cs:=[I ap]) kr uH
    clear Ea uH
    refine g8 ?_
    refine aF hS (b:=yW) kr (fun hb=>?_) fun hb=>?_
    ·replace hm:=hm.1 hb
     refine region ?_
     refine oP T hS 2 ⟨[(1,.f (.func 72) [] [.p 901 0,.p 902 0]),(5,Sl ci dn ce),(8,Sl a1 l_ c1),(9,I (lN l_)),(10,I bc),(18,Sl ci dn ce),(19,V (.agg #[.int .i64 ((gi l_ bc).ah),.int .i64 ((gi l_ bc).Kind),.int .i64 ((gi l_ bc).aD),.int .i64 ((gi l_ bc).End),.int .i64 ((gi l_ bc).Result)]))],[(901,(43,[Sl a2 am c2])),(902,(3,[I ap]))]⟩ fun a hS=>?_
     refine op1 (lit (E:=102) (col:=0) (T:=ao) (vals:=[.agg #[.int .i64 ((gi l_ bc).ah),.int .i64 ((gi l_ bc).Kind),.int .i64 ((gi l_ bc).aD),.int .i64 ((gi l_ bc).End),.int .i64 ((gi l_ bc).Result)]]) (ys:=[(gi l_ bc)]) T hS kr kr kr kr (by exact ⟨rfl,trivial⟩) rfl kr kr kr kr ?_)
     intro b130 a qZ qQ hE h133 hN hS
     clear hN
     replace hO:=hO.m2 hE
     replace h111:=h111.m2 hE
     replace h112:=h112.m1 hE
     replace h114:=h114.m1 hE
     replace h133:=h133.rs0
     obtain ⟨hq,hm⟩:=hm
     obtain ⟨news,hN⟩:=h133.src
     refine op1 (append (E:=102) (T:=ao) (col:=1005) (xs:=dn) T hS kr kr kr kr h111 hN kr kr kr kr hq ?_)
     intro Iq Ia a yC wW hE h136 hS
     clear hq hN
     clear h111
     replace hO:=hO.m2 hE
     replace h112:=h112.m1 hE
     replace h114:=h114.m1 hE
     replace h133:=h133.m1 hE
     refine ePe T hS [19,20,21] [(5,Sl Iq (dn++[(gi l_ bc)]) Ia)] fun a hS=>?_
     exact ⟨Z,_,dn++[(gi l_ bc)],Iq,Ia,hm,hS.sl _,hO,hP,h136,h112,h114⟩
    replace hm:=hm.2 hb
    refine aL ?_
    exact ⟨Z,_,dn,ci,ce,hm,hS.sl _,hO,hP,h111,h112,h114⟩
   rintro a qY ⟨Z,zX,bi,dZ,dY,hm,hS,hO,hP,h118,h119,h120⟩
   unfold VC71_72_J2 at hm
   refine region (ePe T hS [] [(10,I (wR (bc+1)))] fun a hS=>?_)
   exact ⟨⟨bi,wR (bc+1)⟩,⟨Z,_,dZ,dY,hm.1,hS.sl _,hO,hP,h118,h119,h120⟩,hm.2⟩
  replace hm:=hm.2 hb
  refine cl (by rfl) ?_
  exact ⟨Z,_,dn,ci,ce,hm,hS.sl _,hO,hP,h111,h114⟩
 rintro a Cv ⟨Z,zW,bv,dk,dj,hm,hS,hO,hP,h104,h105⟩
 unfold VC71_72_J1 at hm
 refine rPe T hS [5] [(4,Sl dk bv dj)] fun a hS=>?_
 refine aZ ?_
 obtain ⟨lB,hE,hF⟩:=h104.freeze (by decide)
 replace hS:=hS.ev hE (cN kr)
 replace hO:=hO.m2 hE
 replace h105:=h105.m1 hE
 have h107:=hF; clear hE hF
 exact gF T hS hO (fun c h=>bS kr h) (fun c h=>bT (l:=[(i1,901),(i2,902)]) h) (bN [(i1,901),(i2,902)]) rfl (r:=[.slice dk bv.length dj]) kr (fun X' hM hC=>⟨bv,hm,dk,dj,rfl,h107.m0 hM,((hS.cell (id:=901) (t:=43) (cs:=[Sl a2 am c2]) kr).out (f:=(bN [(i1,901),(i2,902)])) hC kr kr (hP.at 0 rfl)),((hS.cell (id:=902) (t:=3) (cs:=[I ap]) kr).out (f:=(bN [(i1,901),(i2,902)])) hC kr kr (hP.at 1 rfl))⟩)
theorem C71_72 (J1:S72) (v:∀ (l_:List ab) (am:List Int) (ap:Int),xw l_ am ap->VC71_72 l_ am ap (fun r=>r=bp l_ am ap)):S71_72:=by
 intro w X l_ am ap a1 c1 a2 c2  b1 i1 b2 i2 hp h1 h2 ff gE hA
 refine (W71_72 J1 w X l_ am ap a1 c1 a2 c2  b1 i1 b2 i2 _ (v l_ am ap hp) h1 h2 ff gE hA).mono ?_
 rintro _ _ _ _ ⟨r,rfl,h⟩
 exact h
theorem W42 (J3:S69) (J2:S70) (wt:S71_72) (w0) (X0) (h_:aj) (l_:List ab) (of:List Int) (a1) (c1) (a2) (c2) (a3) (c3) (a4) (c4) (Q:(List (List aa)) × Int->Prop) (hm:VC42 h_ l_ of Q) (h1:RS az w0 X0 a1 h_.ae c1) (h2:RS aI w0 X0 a2 h_.ak c2) (h3:RS ao w0 X0 a3 l_ c3) (h4:RS tI w0 X0 a4 of c4) :
  Ret Tryz.prog 42 #[.agg #[.slice a1 h_.ae.length c1,.slice a2 h_.ak.length c2],.slice a3 l_.length c3,.slice a4 of.length c4] aJ w0 X0 (fun w X' v=>∃ r,Q r/\∃ cB cA,v=.tuple #[.slice cB r.1.length cA,.int .i64 r.2]/\RS (eW ar) w X' cB r.1 cA):=by
 unfold VC42 at hm
 replace hm:=hm (h1.sm kr)
 replace hm:=hm (h2.sm kr)
 replace hm:=hm (h3.sm kr)
 replace hm:=hm (h4.sm kr)
 refine enter Tryz.func42 rfl (vals:=[.agg #[.slice a1 h_.ae.length c1,.slice a2 h_.ak.length c2],.slice a3 l_.length c3,.slice a4 of.length c4]) kr ?_
 intro Z a hS hO hM
 replace h1:=h1.m0 hM
 replace h2:=h2.m0 hM
 replace h3:=h3.m0 hM
 replace h4:=h4.m0 hM
 refine rM T hS ⟨[(1,Sl a3 l_ c3),(3,Pt 4 0),(5,Pt 6 0)],[(4,(25,[Sl a1 h_.ae c1,Sl a2 h_.ak c2])),(6,(43,[Sl a4 of c4]))]⟩ fun Z a NA PQ hS hE hr=>?_
 replace hO:=hO.m2 hE
 replace h1:=h1.m1 hE
 replace h2:=h2.m1 hE
 replace h3:=h3.m1 hE
 replace h4:=h4.m1 hE
 clear hE hr
 refine rP T hS ⟨[(1,Sl a3 l_ c3),(3,Pt 4 0),(5,Pt 6 0),(8,V (.slice none 0 0))],[(4,(25,[Sl a1 h_.ae c1,Sl a2 h_.ak c2])),(6,(43,[Sl a4 of c4]))]⟩ fun a hS=>?_
 refine b5 (fun a w=>∃ (Z:Nat->Nat) (X:Nat->Nat) (bv:List (List aa)) (dk:Option Addr) (dj:Nat),VC42_J1 Q bv/\St Tryz.f42.ntmps ⟨[(8,Sl dk bv dj)],[]⟩ Z a w X/\Old w0 X0 w X/\OS (eW ar) 26 w X 1007 dk bv dj) ?_ ?_
 ·refine rP T hS ⟨[(1,Sl a3 l_ c3),(5,Pt 6 0),(8,V (.slice none 0 0)),(17,Sl a1 h_.ae c1),(18,I (lN h_.ae)),(19,I 0)],[(6,(43,[Sl a4 of c4]))]⟩ fun a hS=>?_
  refine aN ?_
  obtain ⟨I1,μ1,cy,hm⟩:=hm
  refine cw (σ:=(List (List aa)) × Int) (fun s a w=>∃ Z X ci ce,I1 s.1 s.2/\St Tryz.f42.ntmps ⟨[(1,Sl a3 l_ c3),(5,Pt 6 0),(8,Sl ci s.1 ce),(17,Sl a1 h_.ae c1),(18,I (lN h_.ae)),(19,I s.2)],[(6,(43,[Sl a4 of c4]))]⟩ Z a w X/\Old w0 X0 w X/\RS ao w X a3 l_ c3/\OS (eW ar) 26 w X 1007 ci s.1 ce/\RS az w X a1 h_.ae c1/\RS tI w X a4 of c4) (fun s=>μ1 s.1 s.2) (⟨[],0⟩) ?_ ?_
  ·exact ⟨Z,_,none,0,cy,hS.sl _,hO,h3,(OS.nil _ _ _ _ _),h1,h4⟩
  rintro ⟨dn,bc⟩ a Jb ⟨Z,LC,ci,ce,hI,hS,hO,h107,h111,h112,h114⟩
  replace hm:=hm dn bc hI
  clear hI cy
  refine rP T hS ⟨[(1,Sl a3 l_ c3),(5,Pt 6 0),(8,Sl ci dn ce),(17,Sl a1 h_.ae c1),(18,I (lN h_.ae)),(19,I bc),(20,B (decide (bc < (lN h_.ae))))],[(6,(43,[Sl a4 of c4]))]⟩ fun a hS=>?_
  refine bd ?_
  refine aF hS (b:=decide (bc < (lN h_.ae))) kr (fun hb=>?_) fun hb=>?_
  ·replace hm:=hm.1 hb
   refine aL (bd ?_)
   refine aN ?_
   refine bn ?_
   refine oP T hS 1 ⟨[(1,Sl a3 l_ c3),(5,Pt 6 0),(8,Sl ci dn ce),(17,Sl a1 h_.ae c1),(18,I (lN h_.ae)),(19,I bc),(21,I bc)],[(6,(43,[Sl a4 of c4]))]⟩ fun a hS=>?_
   obtain ⟨hq,hm⟩:=hm
   refine op1 (index (e:=48) (k:=.i64) T hS kr kr kr kr h112 kr kr hq.1 hq.2 ?_)
   intro Ma a h116 hS
   refine op1 (eB T hS kr kr kr h116 kr kr ?_)
   intro v117 a hv hS
   obtain ⟨gT,gS,hv,h120⟩:=hv
   subst hv
   replace hm:=hm (h120.sm kr)
   refine eM T hS ⟨[(1,Sl a3 l_ c3),(5,Pt 6 0),(8,Sl ci dn ce),(9,Pt 10 0),(10,Pt 11 0),(17,Sl a1 h_.ae c1),(18,I (lN h_.ae)),(19,I bc)],[(6,(43,[Sl a4 of c4])),(10,(3,[I bc])),(11,(48,(cO (gi h_.ae bc) gT gS)))]⟩ fun Z a Jd LD hS hE hr=>?_
   replace hO:=hO.m2 hE
   replace h107:=h107.m1 hE
   replace h111:=h111.m2 hE
   replace h112:=h112.m1 hE
   replace h114:=h114.m1 hE
   replace h120:=h120.m1 hE
   clear hE hr
   refine bn ?_
   refine oP T hS 2 ⟨[(1,Sl a3 l_ c3),(5,Pt 6 0),(8,Sl ci dn ce),(9,Pt 10 0),(10,Pt 11 0),(17,Sl a1 h_.ae c1),(18,I (lN h_.ae)),(19,I bc),(24,Sl a4 of c4),(25,I bc)],[(6,(43,[Sl a4 of c4])),(10,(3,[I bc])),(11,(48,(cO (gi h_.ae bc) gT gS)))]⟩ fun a hS=>?_
   obtain ⟨hq,hm⟩:=hm
   refine op1 (call hS kr kr hb69 kr (fun _ _=>rfl) (J3 _ _ of bc a4 c4 hq h114) ?_)
   intro v121 a tR tE hE hp hS
   replace hO:=hO.m2 hE
   replace h107:=h107.m1 hE
   replace h111:=h111.m2 hE
   replace h112:=h112.m1 hE
   replace h114:=h114.m1 hE
   replace h120:=h120.m1 hE
   obtain ⟨iy,io,hp,h127⟩:=hp
   obtain ⟨dv,hr⟩:∃ r,aS of bc=r:=⟨_,rfl⟩
   replace hm:=hm dv hr
   rw [hr] at hp h127
   clear hr
   subst hp
   replace hm:=hm (h127.sm kr)
   refine eP T hS ⟨[(1,Sl a3 l_ c3),(5,Pt 6 0),(8,Sl ci dn ce),(9,Pt 10 0),(10,Pt 11 0),(11,Sl iy dv io),(17,Sl a1 h_.ae c1),(18,I (lN h_.ae)),(19,I bc)],[(6,(43,[Sl a4 of c4])),(10,(3,[I bc])),(11,(48,(cO (gi h_.ae bc) gT gS)))]⟩ fun a hS=>?_
   refine dq [6,10,11] mixed hS ?_
   intro q5 rb hS hE hD hH
   replace hO:=hO.m2 hE
   replace h107:=h107.m1 hE
   replace h111:=h111.m2 hE
   replace h112:=h112.m1 hE
   replace h114:=h114.m1 hE
   replace h120:=h120.m1 hE
   replace h127:=h127.m1 hE
   refine tk T [0,1,2] [6,10,11] hS hH #[true,true,true,false,false,false,false,false,false,false] 7 ⟨[(1,Sl a3 l_ c3),(5,Pt 6 0),(8,Sl ci dn ce),(11,Sl iy dv io),(17,Sl a1 h_.ae c1),(18,I (lN h_.ae)),(19,I bc),(28,V (.agg #[.int .i64 ((gi h_.ae bc).aq),.int .i64 ((gi h_.ae bc).ax),.int .i64 ((gi h_.ae bc).aE),.slice gT ((gi h_.ae bc).Rows).length gS])),(29,Sl a3 l_ c3),(30,.f (.func 72) [] [.p 6 0,.p 10 0])],[(6,(43,[Sl a4 of c4])),(10,(3,[I bc])),(11,(48,(cO (gi h_.ae bc) gT gS)))]⟩ fun a hS=>?_
   obtain ⟨hq,hm⟩:=hm
   refine only 3 kr (by rfl) (lv hS kr kr hb71 kr (wt _ _ l_ of bc a3 c3 a4 c4 (Z 6) 6 (Z 10) 10 hq h107 h114 (hS.cell (id:=6) (t:=43) (cs:=[Sl a4 of c4]) kr) (hS.cell (id:=10) (t:=3) (cs:=[I bc]) kr) ⟨by decide,by decide⟩) ?_)
   intro v130 a qZ qQ hE hp hS
   replace hO:=hO.m2 hE
   replace hD:=hD.ev hE rfl
   replace h107:=h107.m1 hE
   replace h111:=h111.m2 hE
   replace h112:=h112.m1 hE
   replace h114:=h114.m1 hE
   replace h120:=h120.m1 hE
   replace h127:=h127.m1 hE
   obtain ⟨zR,zI,hp,h136,uG,D4⟩:=hp
   obtain ⟨ji,hr⟩:∃ r,bp l_ of bc=r:=⟨_,rfl⟩
   replace hm:=hm ji hr
   rw [hr] at hp h136
   clear hr
   subst hp
   replace hm:=hm (h136.sm kr)
   replace hS:=hS.cx (id:=6) (t:=43) (cs:=[Sl a4 of c4]) kr uG
   replace hS:=hS.cx (id:=10) (t:=3) (cs:=[I bc]) kr D4
   clear uG D4
   replace hS:=hS.sl ⟨[(1,Sl a3 l_ c3),(5,Pt 6 0),(8,Sl ci dn ce),(11,Sl iy dv io),(17,Sl a1 h_.ae c1),(18,I (lN h_.ae)),(19,I bc),(28,V (.agg #[.int .i64 ((gi h_.ae bc).aq),.int .i64 ((gi h_.ae bc).ax),.int .i64 ((gi h_.ae bc).aE),.slice gT ((gi h_.ae bc).Rows).length gS])),(29,Sl a3 l_ c3),(30,.f (.func 72) [] [.p 6 0,.p 10 0]),(31,Sl zR ji zI)],[(6,(43,[Sl a4 of c4])),(10,(3,[I bc])),(11,(48,(cO (gi h_.ae bc) gT gS)))]⟩
   refine cV (bI.of hS (bks:=[6,10,11]) kr hD) ?_
   intro hH
   obtain ⟨hq,hm⟩:=hm
   refine only 4 kr (by rfl) (call hS kr kr hb70 kr (fun _ _=>rfl) (J2 _ _ (gi h_.ae bc) ji gT gS zR zI 1013 hq h120 h136) ?_)
   intro v139 a yB zX hE hp hS
   replace hO:=hO.m2 hE
   replace hD:=hD.ev hE rfl
   replace h107:=h107.m1 hE
   replace h111:=h111.m2 hE
   replace h112:=h112.m1 hE
   replace h114:=h114.m1 hE
   replace h120:=h120.m1 hE
   replace h127:=h127.m1 hE
   replace h136:=h136.m1 hE
   obtain ⟨gc,f9,hp,h145⟩:=hp
   obtain ⟨bZ,hr⟩:∃ r,bj (gi h_.ae bc) ji=r:=⟨_,rfl⟩
   replace hm:=hm bZ hr
   rw [hr] at hp h145
   clear hr
   subst hp
   replace hm:=hm (h145.sm kr)
   replace hS:=hS.sl ⟨[(1,Sl a3 l_ c3),(5,Pt 6 0),(8,Sl ci dn ce),(11,Sl iy dv io),(17,Sl a1 h_.ae c1),(18,I (lN h_.ae)),(19,I bc),(28,V (.agg #[.int .i64 ((gi h_.ae bc).aq),.int .i64 ((gi h_.ae bc).ax),.int .i64 ((gi h_.ae bc).aE),.slice gT ((gi h_.ae bc).Rows).length gS])),(29,Sl a3 l_ c3),(30,.f (.func 72) [] [.p 6 0,.p 10 0]),(31,Sl zR ji zI),(32,V (.tuple #[.slice gc bZ.1.length f9,.int .i64 bZ.2]))],[(6,(43,[Sl a4 of c4])),(10,(3,[I bc])),(11,(48,(cO (gi h_.ae bc) gT gS)))]⟩
   refine cV (bI.of hS (bks:=[6,10,11]) kr hD) ?_
   intro hH
   refine tk T [5,6,7,8,9] [6,10,11] hS hH #[true,true,true,true,true,true,true,true,true,true] 0 ⟨[(1,Sl a3 l_ c3),(5,Pt 6 0),(8,Sl ci dn ce),(11,Sl iy dv io),(12,Sl gc bZ.1 f9),(13,I bZ.2),(17,Sl a1 h_.ae c1),(18,I (lN h_.ae)),(19,I bc)],[(6,(43,[Sl a4 of c4])),(10,(3,[I bc])),(11,(48,(cO (gi h_.ae bc) gT gS)))]⟩ fun a hS=>?_
   refine aV kr ?_
   replace hS:=hS.sl ⟨[(1,Sl a3 l_ c3),(5,Pt 6 0),(8,Sl ci dn ce),(11,Sl iy dv io),(12,Sl gc bZ.1 f9),(13,I bZ.2),(17,Sl a1 h_.ae c1),(18,I (lN h_.ae)),(19,I bc)],[(6,(43,[Sl a4 of c4]))]⟩
   refine bd (rP T hS ⟨[(1,Sl a3 l_ c3),(5,Pt 6 0),(8,Sl ci dn ce),(11,Sl iy dv io),(12,Sl gc bZ.1 f9),(13,I bZ.2),(17,Sl a1 h_.ae c1),(18,I (lN h_.ae)),(19,I bc),(36,B (bZ.2 != 0))],[(6,(43,[Sl a4 of c4]))]⟩ fun a hS=>?_)
   refine aF hS (b:=(bZ.2 != 0)) kr (fun hb=>?_) fun hb=>?_
   ·replace hm:=hm.1 hb
    refine rP T hS ⟨[(6,V (.slice none 0 0)),(7,I bZ.2)],[]⟩ fun a hS=>?_
    refine aZ ?_
    exact fin T hS hO (fun c=>c) rfl (r:=[.slice none 0 0,.int .i64 bZ.2]) kr (fun X' hM hC=>⟨([],bZ.2),hm,none,0,rfl,RS.empty _ _ _⟩)
   replace hm:=hm.2 hb
   refine aL ?_
   refine b5 (fun a w=>∃ (Z:Nat->Nat) (X:Nat->Nat) (gm:List (List aa)) (ge:List aa) (BU:Option Addr) (BJ:Nat) (zQ:Option Addr) (zH:Nat),VC42_J2 I1 μ1 dn bc gm ge/\St Tryz.f42.ntmps ⟨[(1,Sl a3 l_ c3),(5,Pt 6 0),(8,Sl BU gm BJ),(12,Sl zQ ge zH),(17,Sl a1 h_.ae c1),(18,I (lN h_.ae)),(19,I bc)],[(6,(43,[Sl a4 of c4]))]⟩ Z a w X/\Old w0 X0 w X/\RS ao w X a3 l_ c3/\OS (eW ar) 26 w X 1007 BU gm BJ/\OS ar 56 w X 1013 zQ ge zH/\RS az w X a1 h_.ae c1/\RS tI w X a4 of c4) ?_ ?_
   ·refine rP T hS ⟨[(1,Sl a3 l_ c3),(5,Pt 6 0),(8,Sl ci dn ce),(11,Sl iy dv io),(12,Sl gc bZ.1 f9),(17,Sl a1 h_.ae c1),(18,I (lN h_.ae)),(19,I bc),(38,Sl gc bZ.1 f9),(39,I (lN bZ.1)),(40,I 0)],[(6,(43,[Sl a4 of c4]))]⟩ fun a hS=>?_
    refine aN ?_
    obtain ⟨I2,μ2,cy,hm⟩:=hm
    refine cw (σ:=(List (List aa)) × (List aa) × Int) (fun s a w=>∃ Z X pl pf jN jJ,I2 s.1 s.2.1 s.2.2/\St Tryz.f42.ntmps ⟨[(1,Sl a3 l_ c3),(5,Pt 6 0),(8,Sl pl s.1 pf),(11,Sl iy dv io),(12,Sl jN s.2.1 jJ),(17,Sl a1 h_.ae c1),(18,I (lN h_.ae)),(19,I bc),(38,Sl jN s.2.1 jJ),(39,I (lN bZ.1)),(40,I s.2.2)],[(6,(43,[Sl a4 of c4]))]⟩ Z a w X/\Old w0 X0 w X/\RS ao w X a3 l_ c3/\OS (eW ar) 26 w X 1007 pl s.1 pf/\RS tI w X iy dv io/\OS ar 56 w X 1013 jN s.2.1 jJ/\RS az w X a1 h_.ae c1/\RS tI w X a4 of c4) (fun s=>μ2 s.1 s.2.1 s.2.2) (⟨dn,bZ.1,0⟩) ?_ ?_
    ·exact ⟨Z,_,ci,ce,gc,f9,cy,hS.sl _,hO,h107,h111,h127,h145,h112,h114⟩
    rintro ⟨ma,gA,fJ⟩ a ND ⟨Z,PS,pl,pf,jN,jJ,hI,hS,hO,h168,h172,h173,h177,h178,h180⟩
    replace hm:=hm ma gA fJ hI
    clear hI cy
    refine rP T hS ⟨[(1,Sl a3 l_ c3),(5,Pt 6 0),(8,Sl pl ma pf),(11,Sl iy dv io),(12,Sl jN gA jJ),(17,Sl a1 h_.ae c1),(18,I (lN h_.ae)),(19,I bc),(38,Sl jN gA jJ),(39,I (lN bZ.1)),(40,I fJ),(41,B (decide (fJ < (lN bZ.1))))],[(6,(43,[Sl a4 of c4]))]⟩ fun a hS=>?_
    refine bd ?_
    refine aF hS (b:=decide (fJ < (lN bZ.1))) kr (fun hb=>?_) fun hb=>?_
    ·replace hm:=hm.1 hb
     refine aL (bd ?_)
     refine aN ?_
     refine bn ?_
     refine oP T hS 1 ⟨[(1,Sl a3 l_ c3),(5,Pt 6 0),(8,Sl pl ma pf),(11,Sl iy dv io),(12,Sl jN gA jJ),(17,Sl a1 h_.ae c1),(18,I (lN h_.ae)),(19,I bc),(38,Sl jN gA jJ),(39,I (lN bZ.1)),(40,I fJ),(42,I fJ)],[(6,(43,[Sl a4 of c4]))]⟩ fun a hS=>?_
     obtain ⟨DR,hm⟩:=hm
     refine op1 (mV (E:=56) (k:=.i64) T hS kr kr kr kr h177 kr kr DR.1 DR.2 ?_)
     intro LY a h183 h182 hS
     refine op1 (AZ T hS kr kr kr h182 kr kr ?_)
     intro v185 a hv hS
     subst hv
     refine eM T hS ⟨[(1,Sl a3 l_ c3),(5,Pt 6 0),(8,Sl pl ma pf),(11,Sl iy dv io),(12,Sl jN gA jJ),(14,I fJ),(15,Pt 16 0),(17,Sl a1 h_.ae c1),(18,I (lN h_.ae)),(19,I bc),(38,Sl jN gA jJ),(39,I (lN bZ.1)),(40,I fJ)],[(6,(43,[Sl a4 of c4])),(16,(56,(cK (gi gA fJ))))]⟩ fun Z a Gz Is hS hE hr=>?_
     replace hO:=hO.m2 hE
     replace h168:=h168.m1 hE
     replace h172:=h172.m2 hE
     replace h173:=h173.m1 hE
     replace h177:=h177.m2 hE
     replace h178:=h178.m1 hE
     replace h180:=h180.m1 hE
     clear hE hr
     refine region ?_
     refine oP T hS 5 ⟨[(1,Sl a3 l_ c3),(5,Pt 6 0),(8,Sl pl ma pf),(11,Sl iy dv io),(12,Sl jN gA jJ),(17,Sl a1 h_.ae c1),(18,I (lN h_.ae)),(19,I bc),(38,Sl jN gA jJ),(39,I (lN bZ.1)),(40,I fJ),(45,Sl jN gA jJ),(46,I fJ),(47,Sl iy dv io),(49,I ((gi gA fJ).Oper))],[(6,(43,[Sl a4 of c4]))]⟩ fun a hS=>?_
     obtain ⟨hq,hm⟩:=hm
     refine op1 (index (e:=3) (k:=.i64) T hS kr kr kr kr h173 kr kr hq.1 hq.2 ?_)
     intro Qt a h187 hS
     refine op1 (eC T hS kr kr kr h187 rfl kr ?_)
     intro v188 a hv hS
     cases hv
     obtain ⟨xX,hm⟩:=hm
     refine op1 (mV (E:=56) (k:=.i64) T hS kr kr kr kr h177 kr kr xX.1 xX.2 ?_)
     intro Qq a h191 h190 hS
     have h192:=h191.ad
     clear h191 h190
     refine op1 (tn (off:=0) (fsz:=1) (ft:=3) T hS kr kr kr h192 kr kr ?_)
     intro Qm a h195 hS
     refine op1 (ss (m:=1) (off:=0) (x:=(⟨gi dv ((gi gA fJ).Oper),(gi gA fJ).Result⟩:aa)) (v:=I (gi dv ((gi gA fJ).Oper))) (i:=fJ.toNat) (E:=56) (xs:=gA) T hS kr kr kr kr h177 h195 (by have:=xX.1; have:=xX.2; (try simp only [List.length_set]); omega) kr kr rfl (fun _ _ _ h=>by cases h; rfl) ?_)
     intro a NE hE h197 hS
     clear h177
     replace hO:=hO.m2 hE
     replace h168:=h168.m1 hE
     replace h172:=h172.m2 hE
     replace h173:=h173.m1 hE
     replace h178:=h178.m1 hE
     replace h180:=h180.m1 hE
     replace h187:=h187.m1 hE
     replace hS:=hS.conv (t:=12) (y:=.slice jN (gA.set fJ.toNat (⟨gi dv ((gi gA fJ).Oper),(gi gA fJ).Result⟩:aa)).length jJ) kr (by rw [List.length_set])
     replace hS:=hS.conv (t:=38) (y:=.slice jN (gA.set fJ.toNat (⟨gi dv ((gi gA fJ).Oper),(gi gA fJ).Result⟩:aa)).length jJ) kr (by rw [List.length_set])
     replace hS:=hS.conv (t:=45) (y:=.slice jN (gA.set fJ.toNat (⟨gi dv ((gi gA fJ).Oper),(gi gA fJ).Result⟩:aa)).length jJ) kr (by rw [List.length_set])
     refine g8 ?_
     refine region (eP T hS ⟨[(1,Sl a3 l_ c3),(5,Pt 6 0),(8,Sl pl ma pf),(11,Sl iy dv io),(12,Sl jN (gA.set fJ.toNat (⟨gi dv ((gi gA fJ).Oper),(gi gA fJ).Result⟩:aa)) jJ),(17,Sl a1 h_.ae c1),(18,I (lN h_.ae)),(19,I bc),(38,Sl jN (gA.set fJ.toNat (⟨gi dv ((gi gA fJ).Oper),(gi gA fJ).Result⟩:aa)) jJ),(39,I (lN bZ.1)),(40,I (wR (fJ+1)))],[(6,(43,[Sl a4 of c4]))]⟩ fun a hS=>?_)
     exact ⟨⟨ma,(gA.set fJ.toNat (⟨gi dv ((gi gA fJ).Oper),(gi gA fJ).Result⟩:aa)),wR (fJ+1)⟩,⟨Z,_,pl,pf,jN,jJ,hm.1,hS.sl _,hO,h168,h172,h173,h197,h178,h180⟩,hm.2⟩
    replace hm:=hm.2 hb
    refine cl (by rfl) ?_
    exact ⟨Z,_,ma,gA,pl,pf,jN,jJ,hm,hS.sl _,hO,h168,h172,h177,h178,h180⟩
   rintro a Gy ⟨Z,LG,gm,ge,BU,BJ,zQ,zH,hm,hS,hO,h146,h150,h154,h155,h156⟩
   unfold VC42_J2 at hm
   refine region ?_
   refine oP T hS 2 ⟨[(1,Sl a3 l_ c3),(5,Pt 6 0),(8,Sl BU gm BJ),(17,Sl a1 h_.ae c1),(18,I (lN h_.ae)),(19,I bc),(55,Sl BU gm BJ),(56,Sl zQ ge zH)],[(6,(43,[Sl a4 of c4]))]⟩ fun a hS=>?_
   obtain ⟨Dx,hE,hF⟩:=h154.freeze (by decide)
   replace hS:=hS.ev hE (cN kr)
   replace hO:=hO.m2 hE
   replace h146:=h146.m1 hE
   replace h150:=h150.m2 hE
   replace h155:=h155.m1 hE
   replace h156:=h156.m1 hE
   have h158:=hF; clear hE hF
   refine op1 (lit (E:=26) (col:=0) (T:=(eW ar)) (vals:=[.slice zQ ge.length zH]) (ys:=[ge]) T hS kr kr kr kr (by exact ⟨⟨zQ,zH,rfl,h158⟩,trivial⟩) rfl kr kr kr kr ?_)
   intro b159 a Ac BV hE h162 hN hS
   clear hN
   replace hO:=hO.m2 hE
   replace h146:=h146.m1 hE
   replace h150:=h150.m2 hE
   replace h155:=h155.m1 hE
   replace h156:=h156.m1 hE
   replace h158:=h158.m1 hE
   replace h162:=h162.rs0
   obtain ⟨hq,hm⟩:=hm
   obtain ⟨news,hN⟩:=h162.src
   refine op1 (append (E:=26) (T:=(eW ar)) (col:=1007) (xs:=gm) T hS kr kr kr kr h150 hN kr kr kr kr hq ?_)
   intro FV FP a Jr F2 hE h165 hS
   clear hq hN
   clear h150
   replace hO:=hO.m2 hE
   replace h146:=h146.m1 hE
   replace h155:=h155.m1 hE
   replace h156:=h156.m1 hE
   replace h158:=h158.m1 hE
   replace h162:=h162.m1 hE
   refine eP T hS ⟨[(1,Sl a3 l_ c3),(5,Pt 6 0),(8,Sl FV (gm++[ge]) FP),(17,Sl a1 h_.ae c1),(18,I (lN h_.ae)),(19,I bc)],[(6,(43,[Sl a4 of c4]))]⟩ fun a hS=>?_
   refine region (eP T hS ⟨[(1,Sl a3 l_ c3),(5,Pt 6 0),(8,Sl FV (gm++[ge]) FP),(17,Sl a1 h_.ae c1),(18,I (lN h_.ae)),(19,I (wR (bc+1)))],[(6,(43,[Sl a4 of c4]))]⟩ fun a hS=>?_)
   exact ⟨⟨gm++[ge],wR (bc+1)⟩,⟨Z,_,FV,FP,hm.1,hS.sl _,hO,h146,h165,h155,h156⟩,hm.2⟩
  replace hm:=hm.2 hb
  refine cl (by rfl) ?_
  exact ⟨Z,_,dn,ci,ce,hm,hS.sl _,hO,h111⟩
 rintro a Gx ⟨Z,LA,bv,dk,dj,hm,hS,hO,h104⟩
 unfold VC42_J1 at hm
 refine rP T hS ⟨[(6,Sl dk bv dj),(7,I 0)],[]⟩ fun a hS=>?_
 refine aZ ?_
 obtain ⟨oH,hE,hF⟩:=h104.freeze (by decide)
 replace hS:=hS.ev hE (cN kr)
 replace hO:=hO.m2 hE
 have h106:=hF; clear hE hF
 exact fin T hS hO (fun c=>c) rfl (r:=[.slice dk bv.length dj,.int .i64 0]) kr (fun X' hM hC=>⟨(bv,0),hm,dk,dj,rfl,h106.m0 hM⟩)
theorem C42 (J3:S69) (J2:S70) (wt:S71_72) (v:∀ (h_:aj) (l_:List ab) (of:List Int),xu h_ l_ of->VC42 h_ l_ of (fun r=>r=cv h_ l_ of)):S42:=by
 intro w X h_ l_ of a1 c1 a2 c2 a3 c3 a4 c4   hp h1 h2 h3 h4
 refine (W42 J3 J2 wt w X h_ l_ of a1 c1 a2 c2 a3 c3 a4 c4   _ (v h_ l_ of hp) h1 h2 h3 h4).mono ?_
 rintro _ _ _ _ ⟨r,rfl,h⟩
 exact h
theorem W91 (w0) (X0) (n_:Int) (cz) (Q:(List aa)->Prop) (hm:VC91 n_ Q) :
  Ret Tryz.prog 91 #[.slice none 0 0,.int .i64 n_] aJ w0 X0 (fun w X' v=>∃ r,Q r/\∃ cB cA,v=.slice cB r.length cA/\OS ar 56 w X' cz cB r cA):=by
 unfold VC91 at hm
 refine enter Tryz.func91 rfl (vals:=[.slice none 0 0,.int .i64 n_]) kr ?_
 intro Z a hS hO hM
 refine rPe T hS [] [] fun a hS=>?_
 refine bd ?_
 refine rPe T hS [] [(6,B (decide (n_ < 0)))] fun a hS=>?_
 refine aF hS (b:=decide (n_ < 0)) kr (fun hb=>?_) fun hb=>?_
 ·replace hm:=hm.1 hb
  exact hm.elim
 replace hm:=hm.2 hb
 refine aL ?_
 refine b5 (fun a w=>∃ (Z:Nat->Nat) (X:Nat->Nat) (bv:List aa) (dk:Option Addr) (dj:Nat),VC91_J1 Q bv/\St Tryz.f91.ntmps ⟨[(0,Sl dk bv dj)],[]⟩ Z a w X/\Old w0 X0 w X/\OS ar 56 w X 1001 dk bv dj) ?_ ?_
 ·refine bn ?_
  refine oPe T hS 2 [6] [(8,I n_),(9,V (.slice none 0 0))] fun a hS=>?_
  refine op1 (HX (E:=56) T hS kr kr kr kr ?_)
  intro a hS
  refine ePe T hS [8,9,10] [(1,I (wR (n_ - (wR (0 - 0)))))] fun a hS=>?_
  refine rPe T hS [] [(16,B (decide ((wR (n_ - (wR (0 - 0)))) > 0)))] fun a hS=>?_
  refine aF hS (b:=decide ((wR (n_ - (wR (0 - 0)))) > 0)) kr (fun hb=>?_) fun hb=>?_
  ·replace hm:=hm.1 hb
   refine region ?_
   refine oPe T hS 2 [16] [(17,V (.slice none 0 0)),(18,V (.slice none 0 0))] fun a hS=>?_
   refine op1 (HX (E:=56) T hS kr kr kr kr ?_)
   intro a hS
   obtain ⟨hq,hm⟩:=hm
   refine op1 (Aq (k:=.i64) (E:=56) (col:=1001) (T:=ar) (xs:=([]:List aa)) (ad:=none) (c:=0) T hS kr kr kr kr (OS.nil _ _ _ _ _) kr kr hq.1 hq.2 ?_)
   intro a h105 hS
   clear h105
   replace hS:=hS.conv (t:=20) (y:=.slice none 0 0) kr (by rfl)
   refine oPe T hS 1 [1,17,18,19] [(21,I (wR (n_ - (wR (0 - 0)))))] fun a hS=>?_
   obtain ⟨hq,hm⟩:=hm
   refine op1 (Dm (kn:=.i64) (E:=56) (T:=ar) (col:=1001) (m:=wR (n_ - (wR (0 - 0)))) T (⟨0,0⟩:aa) hS kr kr kr kr kr kr kr kr kr hq.1 hq.2 (fun _ _=>rfl) ?_)
   intro ci ce a nk ne hE h108 hS
   replace hO:=hO.m2 hE
   refine oPe T hS 2 [20,21] [(24,I 0)] fun a hS=>?_
   obtain ⟨hq,hm⟩:=hm
   refine op1 (Aq (k:=.i64) (E:=56) (col:=1001) (T:=ar) (xs:=List.replicate (wR (n_ - (wR (0 - 0)))).toNat (⟨0,0⟩:aa)) (ad:=ci) (c:=ce) T hS kr kr kr kr h108 kr kr hq.1 hq.2 ?_)
   intro a h111 hS
   clear h108
   refine ePe T hS [24,25] [(0,Sl ci ((List.replicate (wR (n_ - (wR (0 - 0)))).toNat (⟨0,0⟩:aa)).take (0:Int).toNat) ce)] fun a hS=>?_
   exact ⟨Z,_,(List.replicate (wR (n_ - (wR (0 - 0)))).toNat (⟨0,0⟩:aa)).take (0:Int).toNat,ci,ce,hm,hS.sl _,hO,h111⟩
  replace hm:=hm.2 hb
  refine aL ?_
  exact ⟨Z,_,[],none,0,hm,hS.sl _,hO,(OS.nil _ _ _ _ _)⟩
 rintro a vS ⟨Z,tG,bv,dk,dj,hm,hS,hO,h104⟩
 unfold VC91_J1 at hm
 refine rPe T hS [0] [(4,Sl dk bv dj)] fun a hS=>?_
 refine aZ ?_
 exact fin T hS hO (zAf0 cz) rfl (r:=[.slice dk bv.length dj]) kr (fun X' hM hC=>⟨bv,hm,dk,dj,rfl,(OS.out (f:=(zAf0 cz)) h104 hM hC kr)⟩)
theorem C91 (v:∀ (n_:Int),xD n_->VC91 n_ (fun r=>r=cg n_)):S91:=by
 intro w X n_  cz  hp 
 refine (W91 w X n_  cz  _ (v n_ hp)).mono ?_
 rintro _ _ _ _ ⟨r,rfl,h⟩
 exact h
theorem W73 (JP:S91) (w0) (X0) (bQ:List (List aa)) (a1) (c1) (Q:(List aa)->Prop) (hm:VC73 bQ Q) (h1:RS (eW ar) w0 X0 a1 bQ c1) :
  Ret Tryz.prog 73 #[.slice a1 bQ.length c1] aJ w0 X0 (fun w X' v=>∃ r,Q r/\∃ cB cA,v=.slice cB r.length cA/\RS ar w X' cB r cA):=by
 unfold VC73 at hm
 replace hm:=hm (h1.sm kr)
 refine enter Tryz.func73 rfl (vals:=[.slice a1 bQ.length c1]) kr ?_
 intro Z a hS hO hM
 replace h1:=h1.m0 hM
 refine rPe T hS [] [] fun a hS=>?_
 refine rPe T hS [] [(3,I 0)] fun a hS=>?_
 refine b5 (fun a w=>∃ (Z:Nat->Nat) (X:Nat->Nat) (br:Int),VC73_J1 bQ Q br/\St Tryz.f73.ntmps ⟨[(0,Sl a1 bQ c1),(3,I br)],[]⟩ Z a w X/\Old w0 X0 w X/\RS (eW ar) w X a1 bQ c1) ?_ ?_
 ·refine rPe T hS [] [(9,Sl a1 bQ c1),(10,I (lN bQ)),(11,I 0)] fun a hS=>?_
  refine aN ?_
  obtain ⟨I2,μ2,cy,hm⟩:=hm
  refine cw (σ:=Int × Int) (fun s a w=>∃ Z X,I2 s.1 s.2/\St Tryz.f73.ntmps ⟨[(0,Sl a1 bQ c1),(3,I s.1),(9,Sl a1 bQ c1),(10,I (lN bQ)),(11,I s.2)],[]⟩ Z a w X/\Old w0 X0 w X/\RS (eW ar) w X a1 bQ c1/\RS (eW ar) w X a1 bQ c1) (fun s=>μ2 s.1 s.2) (⟨0,0⟩) ?_ ?_
  ·exact ⟨Z,_,cy,hS.sl _,hO,h1,h1⟩
  rintro ⟨yw,qX⟩ a Cu ⟨Z,ID,hI,hS,hO,h137,h139⟩
  replace hm:=hm yw qX hI
  clear hI cy
  refine rPe T hS [] [(12,B (decide (qX < (lN bQ))))] fun a hS=>?_
  refine bd ?_
  refine aF hS (b:=decide (qX < (lN bQ))) kr (fun hb=>?_) fun hb=>?_
  ·replace hm:=hm.1 hb
   refine aL (bd ?_)
   refine aN ?_
   refine bn ?_
   obtain ⟨hq,hm⟩:=hm
   refine op1 (index (e:=26) (k:=.i64) T hS kr kr kr kr h139 kr kr hq.1 hq.2 ?_)
   intro QI a h142 hS
   refine op1 (eC T hS kr kr kr h142 rfl kr ?_)
   intro v143 a hv hS
   obtain ⟨vw,vk,hv,h146⟩:=hv
   cases hv
   replace hm:=hm (h146.sm kr)
   refine ePe T hS [12,13,14] [(5,Sl vw (gi bQ qX) vk)] fun a hS=>?_
   refine rPe T hS [5] [(3,I (wR (yw+(lN (gi bQ qX)))))] fun a hS=>?_
   refine rPe T hS [] [(20,B (decide ((wR (yw+(lN (gi bQ qX)))) < 0)))] fun a hS=>?_
   refine aF hS (b:=decide ((wR (yw+(lN (gi bQ qX)))) < 0)) kr (fun hb=>?_) fun hb=>?_
   ·replace hm:=hm.1 hb
    exact hm.elim
   replace hm:=hm.2 hb
   refine aL ?_
   refine region (ePe T hS [20] [(11,I (wR (qX+1)))] fun a hS=>?_)
   exact ⟨⟨wR (yw+(lN (gi bQ qX))),wR (qX+1)⟩,⟨Z,_,hm.1,hS.sl _,hO,h137,h139⟩,hm.2⟩
  replace hm:=hm.2 hb
  refine cl (by rfl) ?_
  exact ⟨Z,_,yw,hm,hS.sl _,hO,h137⟩
 rintro a Ct ⟨Z,zU,br,hm,hS,hO,h101⟩
 unfold VC73_J1 at hm
 refine bn ?_
 refine oPe T hS 1 [3] [(23,I br)] fun a hS=>?_
 obtain ⟨hq,hm⟩:=hm
 refine op1 (call hS kr kr hb91 kr (fun _ _=>rfl) (JP _ _ br 1003 hq) ?_)
 intro v103 a yG oH hE hp hS
 replace hO:=hO.m2 hE
 replace h101:=h101.m1 hE
 obtain ⟨zS,zJ,hp,h109⟩:=hp
 obtain ⟨f8,hr⟩:∃ r,cg br=r:=⟨_,rfl⟩
 replace hm:=hm f8 hr
 rw [hr] at hp h109
 clear hr
 subst hp
 replace hm:=hm (h109.sm kr)
 refine ePe T hS [23,24] [(6,Sl zS f8 zJ)] fun a hS=>?_
 refine b5 (fun a w=>∃ (Z:Nat->Nat) (X:Nat->Nat) (bE:List aa) (iz:Option Addr) (ip:Nat),VC73_J2 Q bE/\St Tryz.f73.ntmps ⟨[(6,Sl iz bE ip)],[]⟩ Z a w X/\Old w0 X0 w X/\OS ar 56 w X 1003 iz bE ip) ?_ ?_
 ·refine rPe T hS [0] [(25,Sl a1 bQ c1),(26,I (lN bQ)),(27,I 0)] fun a hS=>?_
  refine aN ?_
  obtain ⟨I1,μ1,cy,hm⟩:=hm
  refine cw (σ:=(List aa) × Int) (fun s a w=>∃ Z X kU kR,I1 s.1 s.2/\St Tryz.f73.ntmps ⟨[(6,Sl kU s.1 kR),(25,Sl a1 bQ c1),(26,I (lN bQ)),(27,I s.2)],[]⟩ Z a w X/\Old w0 X0 w X/\OS ar 56 w X 1003 kU s.1 kR/\RS (eW ar) w X a1 bQ c1) (fun s=>μ1 s.1 s.2) (⟨f8,0⟩) ?_ ?_
  ·exact ⟨Z,_,zS,zJ,cy,hS.sl _,hO,h109,h101⟩
  rintro ⟨aY,ig⟩ a yC ⟨Z,LV,kU,kR,hI,hS,hO,h119,h120⟩
  replace hm:=hm aY ig hI
  clear hI cy
  refine rPe T hS [] [(28,B (decide (ig < (lN bQ))))] fun a hS=>?_
  refine bd ?_
  refine aF hS (b:=decide (ig < (lN bQ))) kr (fun hb=>?_) fun hb=>?_
  ·replace hm:=hm.1 hb
   refine aL (bd ?_)
   refine aN ?_
   refine bn ?_
   obtain ⟨hq,hm⟩:=hm
   refine op1 (index (e:=26) (k:=.i64) T hS kr kr kr kr h120 kr kr hq.1 hq.2 ?_)
   intro B6 a h123 hS
   refine op1 (eC T hS kr kr kr h123 rfl kr ?_)
   intro v124 a hv hS
   obtain ⟨iy,io,hv,h127⟩:=hv
   cases hv
   replace hm:=hm (h127.sm kr)
   refine ePe T hS [28,29,30] [(8,Sl iy (gi bQ ig) io)] fun a hS=>?_
   refine region ?_
   refine oPe T hS 2 [8] [(31,Sl kU aY kR),(32,Sl iy (gi bQ ig) io)] fun a hS=>?_
   obtain ⟨hq,hm⟩:=hm
   obtain ⟨news,hN⟩:=h127.src
   refine op1 (append (E:=56) (T:=ar) (col:=1003) (xs:=aY) T hS kr kr kr kr h119 hN kr kr kr kr hq ?_)
   intro Ir Ib a q5 rb hE h130 hS
   clear hq hN
   clear h119
   replace hO:=hO.m2 hE
   replace h120:=h120.m1 hE
   replace h127:=h127.m1 hE
   refine ePe T hS [32,33] [(6,Sl Ir (aY++(gi bQ ig)) Ib)] fun a hS=>?_
   refine region (ePe T hS [] [(27,I (wR (ig+1)))] fun a hS=>?_)
   exact ⟨⟨aY++(gi bQ ig),wR (ig+1)⟩,⟨Z,_,Ir,Ib,hm.1,hS.sl _,hO,h130,h120⟩,hm.2⟩
  replace hm:=hm.2 hb
  refine cl (by rfl) ?_
  exact ⟨Z,_,aY,kU,kR,hm,hS.sl _,hO,h119⟩
 rintro a sh ⟨Z,wW,bE,iz,ip,hm,hS,hO,h113⟩
 unfold VC73_J2 at hm
 refine rPe T hS [6] [(2,Sl iz bE ip)] fun a hS=>?_
 refine aZ ?_
 obtain ⟨w6,hE,hF⟩:=h113.freeze (by decide)
 replace hS:=hS.ev hE (cN kr)
 replace hO:=hO.m2 hE
 have h115:=hF; clear hE hF
 exact fin T hS hO (fun c=>c) rfl (r:=[.slice iz bE.length ip]) kr (fun X' hM hC=>⟨bE,hm,iz,ip,rfl,h115.m0 hM⟩)
theorem C73 (JP:S91) (v:∀ (bQ:List (List aa)),rD bQ->VC73 bQ (fun r=>r=b6 bQ)):S73:=by
 intro w X bQ a1 c1   hp h1
 refine (W73 JP w X bQ a1 c1   _ (v bQ hp) h1).mono ?_
 rintro _ _ _ _ ⟨r,rfl,h⟩
 exact h
end Go.Proofs.YteahldlmkheleaaGreat
