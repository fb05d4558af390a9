import Derived.Test.YteahldlmkheleaaGreatLWalksS
set_option linter.all false
namespace Go.Proofs.YteahldlmkheleaaGreat
open Go Go.Sv
abbrev zAf0 (cD:Nat):Nat->Nat:=fun c=>(bif Nat.beq c 1001 then cD else c)
set_option maxHeartbeats 1000000
theorem W28 (Fx:S45) (Fw:S50) (Fu:S58) (Kz:S59) (w0) (X0) (objects:List ah) (l_:List aD) (a1) (c1) (a2) (c2) (Q:Int × Int->Prop) (hm:VC28 objects l_ Q) (h1:RS ay w0 X0 a1 objects c1) (h2:RS bA w0 X0 a2 l_ c2) :
  Ret Tryz.prog 28 #[.slice a1 objects.length c1,.slice a2 l_.length c2] aI w0 X0 (fun w X' v=>∃ r,Q r/\v=.tuple #[.int .i64 r.1,.int .i64 r.2]):=by
 unfold VC28 at hm
 replace hm:=hm (h1.sm kr)
 replace hm:=hm (h2.sm kr)
 refine enter Tryz.func28 rfl (vals:=[.slice a1 objects.length c1,.slice a2 l_.length c2]) kr ?_
 intro Z a hS hO hM
 replace h1:=h1.m0 hM
 replace h2:=h2.m0 hM
 refine rPe T hS [] [] fun a hS=>?_
 refine bc ?_
 refine rPe T hS [] [(20,B ((decide ((lN objects) < 1)) || (decide ((lN objects) > 8))))] (sp:=[16]) fun a hS=>?_
 refine aG hS (b:=((decide ((lN objects) < 1)) || (decide ((lN objects) > 8)))) kr (fun hb=>?_) fun hb=>?_
 ·replace hm:=hm.1 hb
  refine rPe T hS [0,1,20] [(4,I (-1)),(5,I 2)] fun a hS=>?_
  refine aV ?_
  exact fin T hS hO (fun c=>c) rfl (r:=[.int .i64 (-1),.int .i64 2]) kr (fun X' hM hC=>⟨((-1),2),hm,rfl⟩)
 replace hm:=hm.2 hb
 refine aJ ?_
 refine b5 (fun a w=>∃ Z X,VC28_J1 objects l_ Q/\St Tryz.f28.ntmps ⟨[(0,Sl a1 objects c1),(1,Sl a2 l_ c2)],[]⟩ Z a w X/\Old w0 X0 w X/\RS ay w X a1 objects c1/\RS bA w X a2 l_ c2) ?_ ?_
 ·refine rPe T hS [20] [(6,I 0)] fun a hS=>?_
  refine aK ?_
  obtain ⟨I2,μ2,ci,hm⟩:=hm
  refine cg (σ:=Int) (fun s a w=>∃ Z X,I2 s/\St Tryz.f28.ntmps ⟨[(0,Sl a1 objects c1),(1,Sl a2 l_ c2),(6,I s)],[]⟩ Z a w X/\Old w0 X0 w X/\RS ay w X a1 objects c1/\RS bA w X a2 l_ c2) (fun s=>μ2 s) (0) ?_ ?_
  ·exact ⟨Z,_,ci,hS.sl _,hO,h1,h2⟩
  rintro iY a ET ⟨Z,DI,hI,hS,hO,h150,h151⟩
  replace hm:=hm iY hI
  clear hI ci
  refine bc ?_
  refine rPe T hS [] [(24,B (decide (iY < (lN objects))))] fun a hS=>?_
  refine aG hS (b:=decide (iY < (lN objects))) kr (fun hb=>?_) fun hb=>?_
  ·replace hm:=hm.1 hb
   refine aJ (bc ?_)
   refine aK ?_
   refine bl ?_
   refine oPe T hS 2 [24] [(28,Sl a1 objects c1),(29,I iY)] fun a hS=>?_
   obtain ⟨hq,hm⟩:=hm
   refine op1 (index (e:=48) (k:=.i64) T hS kr kr kr kr h150 kr kr hq.1 hq.2 ?_)
   intro I6 a h154 hS
   refine op1 (eD T hS kr kr kr h154 kr kr ?_)
   intro v155 a hv hS
   obtain ⟨LZ,LR,hv,h158⟩:=hv
   subst hv
   replace hm:=hm (h158.sm kr)
   refine op1 (call hS kr kr hb58 kr (fun _ _=>rfl) (Fu _ _ (gi objects iY) LZ LR h158) ?_)
   intro v159 a z8 B3 hE hp hS
   replace hO:=hO.m2 hE
   replace h150:=h150.m1 hE
   replace h151:=h151.m1 hE
   replace h154:=h154.m1 hE
   replace h158:=h158.m1 hE
   obtain ⟨t0,hr⟩:∃ r,cI (gi objects iY)=r:=⟨_,rfl⟩
   replace hm:=hm t0 hr
   rw [hr] at hp
   clear hr
   subst hp
   refine ePe T hS [28,29,30,31,32] [(8,I t0.2)] fun a hS=>?_
   refine rPe T hS [8] [(36,B (t0.2 != 0))] fun a hS=>?_
   refine aG hS (b:=(t0.2 != 0)) kr (fun hb=>?_) fun hb=>?_
   ·replace hm:=hm.1 hb
    refine rPe T hS [0,1,6,36] [(4,I (-1)),(5,I 2)] fun a hS=>?_
    refine aV ?_
    exact fin T hS hO (fun c=>c) rfl (r:=[.int .i64 (-1),.int .i64 2]) kr (fun X' hM hC=>⟨((-1),2),hm,rfl⟩)
   replace hm:=hm.2 hb
   refine aJ ?_
   refine region (ePe T hS [36] [(6,I (wR (iY+1)))] fun a hS=>?_)
   exact ⟨wR (iY+1),⟨Z,_,hm.1,hS.sl _,hO,h150,h151⟩,hm.2⟩
  replace hm:=hm.2 hb
  refine cb (by rfl) ?_
  exact ⟨Z,_,hm,hS.sl _,hO,h150,h151⟩
 rintro a JS ⟨Z,IT,hm,hS,hO,h101,h102⟩
 unfold VC28_J1 at hm
 refine bl ?_
 refine oPe T hS 1 [] [(38,Sl a2 l_ c2)] fun a hS=>?_
 obtain ⟨hq,hm⟩:=hm
 refine op1 (call hS kr kr hb45 kr (fun _ _=>rfl) (Fx _ _ l_ a2 c2 hq h102) ?_)
 intro v103 a yl ox hE hp hS
 replace hO:=hO.m2 hE
 replace h101:=h101.m1 hE
 replace h102:=h102.m1 hE
 obtain ⟨zH,zw,hp,h109⟩:=hp
 obtain ⟨f5,hr⟩:∃ r,cl l_=r:=⟨_,rfl⟩
 replace hm:=hm f5 hr
 rw [hr] at hp h109
 clear hr
 subst hp
 replace hm:=hm (h109.sm kr)
 refine op1 (call hS kr kr hb50 kr (fun _ _=>rfl) (Fw _ _ f5 zH zw h109) ?_)
 intro v110 a CD tt hE hp hS
 replace hO:=hO.m2 hE
 replace h101:=h101.m1 hE
 replace h102:=h102.m1 hE
 replace h109:=h109.m1 hE
 obtain ⟨fB,hr⟩:∃ r,eJ f5=r:=⟨_,rfl⟩
 replace hm:=hm fB hr
 rw [hr] at hp
 clear hr
 subst hp
 refine ePe T hS [38,39,40] [(9,I fB.1),(10,I fB.2)] fun a hS=>?_
 refine bc ?_
 refine rPe T hS [] [(44,B (fB.2 != 0))] fun a hS=>?_
 refine aG hS (b:=(fB.2 != 0)) kr (fun hb=>?_) fun hb=>?_
 ·replace hm:=hm.1 hb
  refine rPe T hS [0,1,9,10,44] [(4,I fB.1),(5,I fB.2)] fun a hS=>?_
  refine aV ?_
  exact fin T hS hO (fun c=>c) rfl (r:=[.int .i64 fB.1,.int .i64 fB.2]) kr (fun X' hM hC=>⟨(fB.1,fB.2),hm,rfl⟩)
 replace hm:=hm.2 hb
 refine aJ ?_
 refine b5 (fun a w=>∃ Z X,VC28_J2 l_ Q/\St Tryz.f28.ntmps ⟨[(1,Sl a2 l_ c2)],[]⟩ Z a w X/\Old w0 X0 w X/\RS bA w X a2 l_ c2) ?_ ?_
 ·refine rPe T hS [9,10,44] [(11,I 0)] fun a hS=>?_
  refine aK ?_
  obtain ⟨I1,μ1,ci,hm⟩:=hm
  refine cg (σ:=Int) (fun s a w=>∃ Z X,I1 s/\St Tryz.f28.ntmps ⟨[(0,Sl a1 objects c1),(1,Sl a2 l_ c2),(11,I s)],[]⟩ Z a w X/\Old w0 X0 w X/\RS ay w X a1 objects c1/\RS bA w X a2 l_ c2) (fun s=>μ1 s) (0) ?_ ?_
  ·exact ⟨Z,_,ci,hS.sl _,hO,h101,h102⟩
  rintro dI a vy ⟨Z,zK,hI,hS,hO,h115,h116⟩
  replace hm:=hm dI hI
  clear hI ci
  refine bc ?_
  refine rPe T hS [] [(50,B (decide (dI < (lN l_))))] fun a hS=>?_
  refine aG hS (b:=decide (dI < (lN l_))) kr (fun hb=>?_) fun hb=>?_
  ·replace hm:=hm.1 hb
   refine aJ (bc ?_)
   refine aK ?_
   refine bl ?_
   refine oPe T hS 2 [50] [(53,Sl a2 l_ c2),(54,I dI)] fun a hS=>?_
   obtain ⟨hq,hm⟩:=hm
   refine op1 (index (e:=77) (k:=.i64) T hS kr kr kr kr h116 kr kr hq.1 hq.2 ?_)
   intro Gw a h119 hS
   refine op1 (eD T hS kr kr kr h119 kr kr ?_)
   intro v120 a hv hS
   subst hv
   refine eM T hS ⟨[(0,Sl a1 objects c1),(1,Sl a2 l_ c2),(11,I dI),(12,Pt 13 0)],[(13,(77,[I ((gi l_ dI).ax),I (((gi l_ dI).aS).bk),I (((gi l_ dI).aS).aj),I (((gi l_ dI).aS).N)]))]⟩ fun Z a Ac wG hS hE hr=>?_
   replace hO:=hO.m2 hE
   replace h115:=h115.m1 hE
   replace h116:=h116.m1 hE
   clear hE hr
   refine bc ?_
   refine rPe T hS [] [(66,B ((decide (((gi l_ dI).ax) < 0)) || (decide (((gi l_ dI).ax)≥(lN objects)))))] (sp:=[60]) fun a hS=>?_
   refine aG hS (b:=((decide (((gi l_ dI).ax) < 0)) || (decide (((gi l_ dI).ax)≥(lN objects))))) kr (fun hb=>?_) fun hb=>?_
   ·replace hm:=hm.1 hb
    refine rP T hS ⟨[(4,I dI),(5,I 2)],[]⟩ fun a hS=>?_
    refine aV ?_
    exact fin T hS hO (fun c=>c) rfl (r:=[.int .i64 dI,.int .i64 2]) kr (fun X' hM hC=>⟨(dI,2),hm,rfl⟩)
   replace hm:=hm.2 hb
   refine aJ (bc ?_)
   refine b5 (fun a w=>∃ (Z:Nat->Nat) (X:Nat->Nat) (d5:Bool),VC28_J3 objects l_ Q I1 μ1 dI d5/\St Tryz.f28.ntmps ⟨[(0,Sl a1 objects c1),(1,Sl a2 l_ c2),(11,I dI),(12,Pt 13 0),(79,B d5)],[(13,(77,[I ((gi l_ dI).ax),I (((gi l_ dI).aS).bk),I (((gi l_ dI).aS).aj),I (((gi l_ dI).aS).N)]))]⟩ Z a w X/\Old w0 X0 w X/\RS ay w X a1 objects c1/\RS bA w X a2 l_ c2) ?_ ?_
   ·refine hJ [13] mixed hS ?_
    intro r8 vi hS hE hD hH
    replace hO:=hO.m2 hE
    replace h115:=h115.m1 hE
    replace h116:=h116.m1 hE
    refine tke T [0,1,2,3,4] [13] hS hH #[true,true,true,true,true,false,false,false,false,false,false,false] 7 [] [(72,B ((((gi l_ dI).aS).bk) == 2))] fun a hS=>?_
    rcases bft ((((gi l_ dI).aS).bk) == 2) with hb | hb
    ·replace hS:=hS.lit (t:=72) kr hb
     replace hm:=hm.1 hb
     refine tke T [5,6,8,9] [13] hS hH #[true,true,true,true,true,true,true,false,true,true,false,false] 3 [] [(73,Sl a2 l_ c2),(74,I dI),(77,I ((gi l_ dI).ax))] fun a hS=>?_
     obtain ⟨hq,hm⟩:=hm
     refine only 7 kr (by rfl) (call hS kr kr hb59 kr (fun _ _=>rfl) (Kz _ _ l_ dI a2 c2 hq h116) ?_)
     intro v138 a r7 vh hE hp hS
     replace hO:=hO.m2 hE
     replace hD:=hD.ev hE rfl
     replace h115:=h115.m1 hE
     replace h116:=h116.m1 hE
     obtain ⟨vR,hr⟩:∃ r,fh l_ dI=r:=⟨_,rfl⟩
     replace hm:=hm vR hr
     rw [hr] at hp
     clear hr
     subst hp
     replace hS:=hS.sle [] [(75,I vR)]
     refine c8 (bJ.of hS (bks:=[13]) kr hD) ?_
     intro hH
     refine tke T [10,11] [13] hS hH (tts 12) 0 [72,73,74,77,75] [(79,B (vR != ((gi l_ dI).ax)))] fun a hS=>?_
     refine aU kr ?_
     replace hS:=hS.sle [] []
     exact ⟨Z,_,(vR != ((gi l_ dI).ax)),hm,hS.sl _,hO,h115,h116⟩
    replace hS:=hS.lit (t:=72) kr hb
    replace hm:=hm.2 hb
    refine tke T [5,6,8,7,9,10,11] [13] hS hH (tts 12) 0 [72] [(79,B false)] fun a hS=>?_
    refine aU kr ?_
    replace hS:=hS.sle [] []
    exact ⟨Z,_,false,hm,hS.sl _,hO,h115,h116⟩
   rintro a EY ⟨Z,Mv,d5,hm,hS,hO,h121,h122⟩
   unfold VC28_J3 at hm
   refine aG hS (b:=d5) kr (fun hb=>?_) fun hb=>?_
   ·replace hm:=hm.1 hb
    refine rP T hS ⟨[(4,I dI),(5,I 32)],[]⟩ fun a hS=>?_
    refine aV ?_
    exact fin T hS hO (fun c=>c) rfl (r:=[.int .i64 dI,.int .i64 32]) kr (fun X' hM hC=>⟨(dI,32),hm,rfl⟩)
   replace hm:=hm.2 hb
   refine aJ ?_
   refine b5 (fun a w=>∃ (Z:Nat->Nat) (X:Nat->Nat) (mC:Bool),VC28_J4 Q I1 μ1 dI mC/\St Tryz.f28.ntmps ⟨[(0,Sl a1 objects c1),(1,Sl a2 l_ c2),(11,I dI),(96,B mC)],[]⟩ Z a w X/\Old w0 X0 w X/\RS ay w X a1 objects c1/\RS bA w X a2 l_ c2) ?_ ?_
   ·refine hJ [13] mixed hS ?_
    intro tB B7 hS hE hD hH
    replace hO:=hO.m2 hE
    replace h121:=h121.m1 hE
    replace h122:=h122.m1 hE
    refine tke T [0,1,2,3,4] [13] hS hH #[true,true,true,true,true,false,false,false,false,false,false,false,false,false,false,false] 11 [] [(85,B ((((gi l_ dI).aS).bk) == 1))] fun a hS=>?_
    rcases bft ((((gi l_ dI).aS).bk) == 1) with hb | hb
    ·replace hS:=hS.lit (t:=85) kr hb
     replace hm:=hm.1 hb
     refine tke T [5,8,9,6,10,7] [13] hS hH #[true,true,true,true,true,true,true,true,true,true,true,false,false,false,false,false] 5 [12] [(88,I (((gi l_ dI).aS).N)),(89,Sl a1 objects c1),(91,I ((gi l_ dI).ax))] fun a hS=>?_
     obtain ⟨hq,hm⟩:=hm
     refine db (e:=48) (k:=.i64) T 11 hS kr kr kr (by rfl) kr hH kr kr h121 kr kr hq.1 hq.2 ?_
     intro MF a h130 hS
     have Bi:=h130.here
     refine du (off:=1) (fsz:=1) (ft:=3) (TF:=tI) (y:=(gi objects ((gi l_ dI).ax)).aw) 12 T hS kr kr kr (by rfl) kr hH kr h130 kr kr kr (fun cs h=>mA h) ?_
     intro Gu a h132 fy hS
     have uB:=Bi
     rw [← fy] at uB
     clear fy
     refine dU T 13 hS kr kr kr (by rfl) kr hH kr h132 uB rfl kr ?_
     intro v133 a hv hS
     cases hv
     refine tke T [14,15] [13] hS hH (tts 16) 0 [85,88,89,91,92,93,94] [(96,B (decide ((((gi l_ dI).aS).N)≥((gi objects ((gi l_ dI).ax)).aw))))] fun a hS=>?_
     refine aU kr ?_
     replace hS:=hS.sl ⟨[(0,Sl a1 objects c1),(1,Sl a2 l_ c2),(11,I dI),(96,B (decide ((((gi l_ dI).aS).N)≥((gi objects ((gi l_ dI).ax)).aw))))],[]⟩
     exact ⟨Z,_,decide ((((gi l_ dI).aS).N)≥((gi objects ((gi l_ dI).ax)).aw)),hm,hS.sl _,hO,h121,h122⟩
    replace hS:=hS.lit (t:=85) kr hb
    replace hm:=hm.2 hb
    refine tke T [5,8,9,6,10,7,11,12,13,14,15] [13] hS hH (tts 16) 0 [12,85] [(96,B false)] fun a hS=>?_
    refine aU kr ?_
    replace hS:=hS.sl ⟨[(0,Sl a1 objects c1),(1,Sl a2 l_ c2),(11,I dI),(96,B false)],[]⟩
    exact ⟨Z,_,false,hm,hS.sl _,hO,h121,h122⟩
   rintro a CC ⟨Z,B5,mC,hm,hS,hO,h124,h125⟩
   unfold VC28_J4 at hm
   refine aG hS (b:=mC) kr (fun hb=>?_) fun hb=>?_
   ·replace hm:=hm.1 hb
    refine rPe T hS [0,1,11,96] [(4,I dI),(5,I 31)] fun a hS=>?_
    refine aV ?_
    exact fin T hS hO (fun c=>c) rfl (r:=[.int .i64 dI,.int .i64 31]) kr (fun X' hM hC=>⟨(dI,31),hm,rfl⟩)
   replace hm:=hm.2 hb
   refine aJ ?_
   refine region (ePe T hS [96] [(11,I (wR (dI+1)))] fun a hS=>?_)
   exact ⟨wR (dI+1),⟨Z,_,hm.1,hS.sl _,hO,h124,h125⟩,hm.2⟩
  replace hm:=hm.2 hb
  refine cb (by rfl) ?_
  exact ⟨Z,_,hm,hS.sl _,hO,h116⟩
 rintro a EX ⟨Z,zJ,hm,hS,hO,h114⟩
 unfold VC28_J2 at hm
 refine rPe T hS [1] [(4,I (lN l_)),(5,I 0)] fun a hS=>?_
 refine aV ?_
 exact fin T hS hO (fun c=>c) rfl (r:=[.int .i64 (lN l_),.int .i64 0]) kr (fun X' hM hC=>⟨((lN l_),0),hm,rfl⟩)
theorem C28 (Fx:S45) (Fw:S50) (Fu:S58) (Kz:S59) (v:∀ (objects:List ah) (l_:List aD),km objects l_->VC28 objects l_ (fun r=>r=dz objects l_)):S28:=by
 intro w X objects l_ a1 c1 a2 c2   hp h1 h2
 refine (W28 Fx Fw Fu Kz w X objects l_ a1 c1 a2 c2   _ (v objects l_ hp) h1 h2).mono ?_
 rintro _ _ _ _ ⟨r,rfl,h⟩
 exact h
theorem W48 (w0) (X0) (i_:Int) (al:ak) (ap:Int) (a1) (c1) (a2) (c2) (b1) (i1) (b2) (i2) (Q:Bool->Prop) (hm:VC48 i_ al ap Q) (h1:RS ay w0 X0 a1 al.ae c1) (h2:RS aM w0 X0 a2 al.ao c2) (fb:Cell w0 X0 b1 i1 25 [.slice a1 al.ae.length c1,.slice a2 al.ao.length c2]) (gp:Cell w0 X0 b2 i2 3 [.int .i64 ap]) (hA:dP [i1,i2]) :
  Ret Tryz.prog 48 #[.int .i64 i_,.pointer (some ⟨b1,0,none⟩),.pointer (some ⟨b2,0,none⟩)] (pR [i1,i2]) w0 X0 (fun w X' v=>∃ r,Q r/\v=.bool r/\Cell w X' b1 i1 25 [.slice a1 al.ae.length c1,.slice a2 al.ao.length c2]/\Cell w X' b2 i2 3 [.int .i64 ap]):=by
 unfold VC48 at hm
 replace hm:=hm (h1.sm kr)
 replace hm:=hm (h2.sm kr)
 refine fv Tryz.func48 rfl (dB [(i1,901),(i2,902)]) (fun id=>(bif Nat.beq id 901 then b1 else (bif Nat.beq id 902 then b2 else 0))) (args:=[I i_,Pt 901 0,Pt 902 0]) (bxs:=[(901,(25,[Sl a1 al.ae c1,Sl a2 al.ao c2])),(902,(3,[I ap]))]) kr rfl (bn.cons kr (fb.map (bK 0 hA.1 rfl)) (bn.cons kr (gp.map (bK 1 hA.1 rfl)) bn.nil)) (fe (fun q hq=>(hA.2 q.1 (List.mem_map.2 ⟨q,hq,rfl⟩)).1)) ?_
 intro a hS hO hM
 have hP:Pin [(901,b1),(902,b2)] (fun id=>(bif Nat.beq id 901 then b1 else (bif Nat.beq id 902 then b2 else 0))):=by intro q hq; simp at hq; rcases hq with rfl | rfl <;> rfl
 generalize (fun id=>(bif Nat.beq id 901 then b1 else (bif Nat.beq id 902 then b2 else 0)))=Z at hS hP
 clear fb gp
 replace h1:=h1.m0 hM
 replace h2:=h2.m0 hM
 refine rPe T hS [] [] fun a hS=>?_
 refine dw [901,902] mixed hS ?_
 intro nS oy hS hE hD hH
 replace hO:=hO.m2 hE
 replace h1:=h1.m1 hE
 replace h2:=h2.m1 hE
 refine tke T [0,2,6,1] [901,902] hS hH #[true,true,true,false,false,false,true,false,false] 5 [0,1,2] [(6,Sl a2 al.ao c2),(7,I i_),(11,I ap)] fun a hS=>?_
 obtain ⟨hq,hm⟩:=hm
 refine db (e:=63) (k:=.i64) T 3 hS kr kr kr (by rfl) kr hH kr kr h2 kr kr hq.1 hq.2 ?_
 intro tv a h104 hS
 have uD:=h104.here
 refine du (off:=0) (fsz:=1) (ft:=3) (TF:=tI) (y:=(gi al.ao i_).ax) 4 T hS kr kr kr (by rfl) kr hH kr h104 kr kr kr (fun cs h=>jT h) ?_
 intro wL a h106 fy hS
 have qu:=uD
 rw [← fy] at qu
 clear fy
 refine dU T 5 hS kr kr kr (by rfl) kr hH kr h106 qu rfl kr ?_
 intro v107 a hv hS
 cases hv
 refine tke T [7,8] [901,902] hS hH (tts 9) 0 [6,7,11,8,9,10] [(4,B (((gi al.ao i_).ax) == ap))] fun a hS=>?_
 refine aU kr ?_
 replace hS:=hS.sle [] []
 refine aV ?_
 exact gy T hS hO (fun c h=>bT kr h) (fun c h=>bU (l:=[(i1,901),(i2,902)]) h) (bO [(i1,901),(i2,902)]) rfl (r:=[.bool (((gi al.ao i_).ax) == ap)]) kr (fun X' hM hC=>⟨(((gi al.ao i_).ax) == ap),hm,rfl,((hS.cell (id:=901) (t:=25) (cs:=[Sl a1 al.ae c1,Sl a2 al.ao c2]) kr).out (f:=(bO [(i1,901),(i2,902)])) hC kr kr (hP.at 0 rfl)),((hS.cell (id:=902) (t:=3) (cs:=[I ap]) kr).out (f:=(bO [(i1,901),(i2,902)])) hC kr kr (hP.at 1 rfl))⟩)
theorem C48 (v:∀ (i_:Int) (al:ak) (ap:Int),w7 i_ al ap->VC48 i_ al ap (fun r=>r=eG i_ al ap)):S48:=by
 intro w X i_ al ap a1 c1 a2 c2  b1 i1 b2 i2 hp h1 h2 fb gp hA
 refine (W48 w X i_ al ap a1 c1 a2 c2  b1 i1 b2 i2 _ (v i_ al ap hp) h1 h2 fb gp hA).mono ?_
 rintro _ _ _ _ ⟨r,rfl,h⟩
 exact h
theorem W46_48 (KF:S48) (w0) (X0) (l_:List av) (al:ak) (ap:Int) (a1) (c1) (a2) (c2) (a3) (c3) (b1) (i1) (b2) (i2) (Q:(List av)->Prop) (hm:VC46_48 l_ al ap Q) (h1:RS aO w0 X0 a1 l_ c1) (h2:RS ay w0 X0 a2 al.ae c2) (h3:RS aM w0 X0 a3 al.ao c3) (fb:Cell w0 X0 b1 i1 25 [.slice a2 al.ae.length c2,.slice a3 al.ao.length c3]) (gp:Cell w0 X0 b2 i2 3 [.int .i64 ap]) (hA:dP [i1,i2]) :
  Ret Tryz.prog 46 #[.slice a1 l_.length c1,.func (.func 48) #[] #[.pointer (some ⟨b1,0,none⟩),.pointer (some ⟨b2,0,none⟩)]] (pR [i1,i2]) w0 X0 (fun w X' v=>∃ r,Q r/\∃ co cn,v=.slice co r.length cn/\RS aO w X' co r cn/\Cell w X' b1 i1 25 [.slice a2 al.ae.length c2,.slice a3 al.ao.length c3]/\Cell w X' b2 i2 3 [.int .i64 ap]):=by
 unfold VC46_48 at hm
 replace hm:=hm (h1.sm kr)
 replace hm:=hm (h2.sm kr)
 replace hm:=hm (h3.sm kr)
 refine fv Tryz.func46 rfl (dB [(i1,901),(i2,902)]) (fun id=>(bif Nat.beq id 901 then b1 else (bif Nat.beq id 902 then b2 else 0))) (args:=[Sl a1 l_ c1,.f (.func 48) [] [.p 901 0,.p 902 0]]) (bxs:=[(901,(25,[Sl a2 al.ae c2,Sl a3 al.ao c3])),(902,(3,[I ap]))]) kr rfl (bn.cons kr (fb.map (bK 0 hA.1 rfl)) (bn.cons kr (gp.map (bK 1 hA.1 rfl)) bn.nil)) (fe (fun q hq=>(hA.2 q.1 (List.mem_map.2 ⟨q,hq,rfl⟩)).1)) ?_
 intro a hS hO hM
 have hP:Pin [(901,b1),(902,b2)] (fun id=>(bif Nat.beq id 901 then b1 else (bif Nat.beq id 902 then b2 else 0))):=by intro q hq; simp at hq; rcases hq with rfl | rfl <;> rfl
 generalize (fun id=>(bif Nat.beq id 901 then b1 else (bif Nat.beq id 902 then b2 else 0)))=Z at hS hP
 clear fb gp
 replace h1:=h1.m0 hM
 replace h2:=h2.m0 hM
 replace h3:=h3.m0 hM
 refine rPe T hS [] [] fun a hS=>?_
 refine rPe T hS [] [(5,V (.slice none 0 0))] fun a hS=>?_
 refine b5 (fun a w=>∃ (Z:Nat->Nat) (X:Nat->Nat) (bv:List av) (dm:Option Addr) (dl:Nat),VC46_48_J1 Q bv/\St Tryz.f46.ntmps ⟨[(5,Sl dm bv dl)],[(901,(25,[Sl a2 al.ae c2,Sl a3 al.ao c3])),(902,(3,[I ap]))]⟩ Z a w X/\fO (dB [(i1,901),(i2,902)]) w0 X0 w X/\Pin [(901,b1),(902,b2)] Z/\OS aO 61 w X 1005 dm bv dl/\RS ay w X a2 al.ae c2/\RS aM w X a3 al.ao c3) ?_ ?_
 ·refine rPe T hS [0] [(8,Sl a1 l_ c1),(9,I (lN l_)),(10,I 0)] fun a hS=>?_
  refine aK ?_
  obtain ⟨I1,μ1,ci,hm⟩:=hm
  refine cg (σ:=(List av) × Int) (fun s a w=>∃ Z X eR d9,I1 s.1 s.2/\St Tryz.f46.ntmps ⟨[(1,.f (.func 48) [] [.p 901 0,.p 902 0]),(5,Sl eR s.1 d9),(8,Sl a1 l_ c1),(9,I (lN l_)),(10,I s.2)],[(901,(25,[Sl a2 al.ae c2,Sl a3 al.ao c3])),(902,(3,[I ap]))]⟩ Z a w X/\fO (dB [(i1,901),(i2,902)]) w0 X0 w X/\Pin [(901,b1),(902,b2)] Z/\OS aO 61 w X 1005 eR s.1 d9/\RS aO w X a1 l_ c1/\RS ay w X a2 al.ae c2/\RS aM w X a3 al.ao c3) (fun s=>μ1 s.1 s.2) (⟨[],0⟩) ?_ ?_
  ·exact ⟨Z,_,none,0,ci,hS.sl _,hO,hP,(OS.nil _ _ _ _ _),h1,h2,h3⟩
  rintro ⟨ce,ic⟩ a vy ⟨Z,zK,eR,d9,hI,hS,hO,hP,h112,h113,h115,h116⟩
  replace hm:=hm ce ic hI
  clear hI ci
  refine rPe T hS [] [(11,B (decide (ic < (lN l_))))] fun a hS=>?_
  refine bc ?_
  refine aG hS (b:=decide (ic < (lN l_))) kr (fun hb=>?_) fun hb=>?_
  ·replace hm:=hm.1 hb
   refine aJ ?_
   refine b5 (fun a w=>∃ (Z:Nat->Nat) (X:Nat->Nat) (dI:List av) (gP:Option Addr) (gM:Nat),VC46_48_J2 I1 μ1 ce ic dI/\St Tryz.f46.ntmps ⟨[(1,.f (.func 48) [] [.p 901 0,.p 902 0]),(5,Sl gP dI gM),(8,Sl a1 l_ c1),(9,I (lN l_)),(10,I ic)],[(901,(25,[Sl a2 al.ae c2,Sl a3 al.ao c3])),(902,(3,[I ap]))]⟩ Z a w X/\fO (dB [(i1,901),(i2,902)]) w0 X0 w X/\Pin [(901,b1),(902,b2)] Z/\OS aO 61 w X 1005 gP dI gM/\RS aO w X a1 l_ c1/\RS ay w X a2 al.ae c2/\RS aM w X a3 al.ao c3) ?_ ?_
   ·refine aK ?_
    refine bl ?_
    refine oPe T hS 1 [11] [(12,I ic)] fun a hS=>?_
    obtain ⟨hq,hm⟩:=hm
    refine op1 (index (e:=61) (k:=.i64) T hS kr kr kr kr h113 kr kr hq.1 hq.2 ?_)
    intro DQ a h125 hS
    refine op1 (eD T hS kr kr kr h125 kr kr ?_)
    intro v126 a hv hS
    subst hv
    refine eM T hS ⟨[(1,.f (.func 48) [] [.p 901 0,.p 902 0]),(5,Sl eR ce d9),(6,I ic),(7,Pt 8 0),(8,Sl a1 l_ c1),(9,I (lN l_)),(10,I ic)],[(8,(61,(cE (gi l_ ic)))),(901,(25,[Sl a2 al.ae c2,Sl a3 al.ao c3])),(902,(3,[I ap]))]⟩ fun Z a py q6 hS hE hr=>?_
    replace hO:=hO.m2 hE
    replace h112:=h112.m2 hE
    replace h113:=h113.m1 hE
    replace h115:=h115.m1 hE
    replace h116:=h116.m1 hE
    replace hP:=hP.mv hr kr
    clear hE hr
    refine bl ?_
    refine oPe T hS 2 [6] [(15,.f (.func 48) [] [.p 901 0,.p 902 0]),(16,I ic)] fun a hS=>?_
    obtain ⟨hq,hm⟩:=hm
    refine op1 (jK (fi:=[]) (cp:=[.p 901 0,.p 902 0]) hS kr kr hb48 kr kr (KF _ _ ic (⟨al.ae,al.ao⟩:ak) ap a2 c2 a3 c3 (Z 901) 901 (Z 902) 902 hq h115 h116 (hS.cell (id:=901) (t:=25) (cs:=[Sl a2 al.ae c2,Sl a3 al.ao c3]) kr) (hS.cell (id:=902) (t:=3) (cs:=[I ap]) kr) ⟨by decide,by decide⟩) ?_)
    intro v127 a qS q7 hE hp hS
    replace hO:=hO.m2 hE
    replace h112:=h112.m2 hE
    replace h113:=h113.m1 hE
    replace h115:=h115.m1 hE
    replace h116:=h116.m1 hE
    obtain ⟨hp,Ep,Eo⟩:=hp
    obtain ⟨sA,hr⟩:∃ r,eG ic (⟨al.ae,al.ao⟩:ak) ap=r:=⟨_,rfl⟩
    replace hm:=hm sA hr
    rw [hr] at hp
    clear hr
    subst hp
    replace hS:=hS.cB (id:=901) (t:=25) (cs:=[Sl a2 al.ae c2,Sl a3 al.ao c3]) kr Ep
    replace hS:=hS.cB (id:=902) (t:=3) (cs:=[I ap]) kr Eo
    clear Ep Eo
    refine gA ?_
    refine aG hS (b:=sA) kr (fun hb=>?_) fun hb=>?_
    ·replace hm:=hm.1 hb
     refine region ?_
     refine oP T hS 2 ⟨[(1,.f (.func 48) [] [.p 901 0,.p 902 0]),(5,Sl eR ce d9),(8,Sl a1 l_ c1),(9,I (lN l_)),(10,I ic),(18,Sl eR ce d9),(19,V (.agg #[.int .i64 ((gi l_ ic).bk),.int .i64 ((gi l_ ic).aj),.int .i64 ((gi l_ ic).N)]))],[(901,(25,[Sl a2 al.ae c2,Sl a3 al.ao c3])),(902,(3,[I ap]))]⟩ fun a hS=>?_
     refine op1 (lit (E:=61) (col:=0) (T:=aO) (vals:=[.agg #[.int .i64 ((gi l_ ic).bk),.int .i64 ((gi l_ ic).aj),.int .i64 ((gi l_ ic).N)]]) (ys:=[(gi l_ ic)]) T hS kr kr kr kr (by exact ⟨rfl,trivial⟩) rfl kr kr kr kr ?_)
     intro b133 a tz tp hE h136 hN hS
     clear hN
     replace hO:=hO.m2 hE
     replace h112:=h112.m2 hE
     replace h113:=h113.m1 hE
     replace h115:=h115.m1 hE
     replace h116:=h116.m1 hE
     replace h136:=h136.rs0
     obtain ⟨hq,hm⟩:=hm
     obtain ⟨news,hN⟩:=h136.src
     refine op1 (append (E:=61) (T:=aO) (col:=1005) (xs:=ce) T hS kr kr kr kr h112 hN kr kr kr kr hq ?_)
     intro mX mT a G2 IV hE h139 hS
     clear hq hN
     clear h112
     replace hO:=hO.m2 hE
     replace h113:=h113.m1 hE
     replace h115:=h115.m1 hE
     replace h116:=h116.m1 hE
     replace h136:=h136.m1 hE
     refine ePe T hS [19,20,21] [(5,Sl mX (ce++[(gi l_ ic)]) mT)] fun a hS=>?_
     exact ⟨Z,_,ce++[(gi l_ ic)],mX,mT,hm,hS.sl _,hO,hP,h139,h113,h115,h116⟩
    replace hm:=hm.2 hb
    refine aJ ?_
    exact ⟨Z,_,ce,eR,d9,hm,hS.sl _,hO,hP,h112,h113,h115,h116⟩
   rintro a CB ⟨Z,Mu,dI,gP,gM,hm,hS,hO,hP,h120,h121,h122,h123⟩
   unfold VC46_48_J2 at hm
   refine region (ePe T hS [] [(10,I (wR (ic+1)))] fun a hS=>?_)
   exact ⟨⟨dI,wR (ic+1)⟩,⟨Z,_,gP,gM,hm.1,hS.sl _,hO,hP,h120,h121,h122,h123⟩,hm.2⟩
  replace hm:=hm.2 hb
  refine cb (by rfl) ?_
  exact ⟨Z,_,ce,eR,d9,hm,hS.sl _,hO,hP,h112,h115,h116⟩
 rintro a EX ⟨Z,zJ,bv,dm,dl,hm,hS,hO,hP,h104,h105,h106⟩
 unfold VC46_48_J1 at hm
 refine rPe T hS [5] [(4,Sl dm bv dl)] fun a hS=>?_
 refine aV ?_
 obtain ⟨mj,hE,hF⟩:=h104.freeze (by decide)
 replace hS:=hS.ev hE (cq kr)
 replace hO:=hO.m2 hE
 replace h105:=h105.m1 hE
 replace h106:=h106.m1 hE
 have h108:=hF; clear hE hF
 exact gy T hS hO (fun c h=>bT kr h) (fun c h=>bU (l:=[(i1,901),(i2,902)]) h) (bO [(i1,901),(i2,902)]) rfl (r:=[.slice dm bv.length dl]) kr (fun X' hM hC=>⟨bv,hm,dm,dl,rfl,h108.m0 hM,((hS.cell (id:=901) (t:=25) (cs:=[Sl a2 al.ae c2,Sl a3 al.ao c3]) kr).out (f:=(bO [(i1,901),(i2,902)])) hC kr kr (hP.at 0 rfl)),((hS.cell (id:=902) (t:=3) (cs:=[I ap]) kr).out (f:=(bO [(i1,901),(i2,902)])) hC kr kr (hP.at 1 rfl))⟩)
theorem C46_48 (KF:S48) (v:∀ (l_:List av) (al:ak) (ap:Int),xa l_ al ap->VC46_48 l_ al ap (fun r=>r=bM l_ al ap)):S46_48:=by
 intro w X l_ al ap a1 c1 a2 c2 a3 c3  b1 i1 b2 i2 hp h1 h2 h3 fb gp hA
 refine (W46_48 KF w X l_ al ap a1 c1 a2 c2 a3 c3  b1 i1 b2 i2 _ (v l_ al ap hp) h1 h2 h3 fb gp hA).mono ?_
 rintro _ _ _ _ ⟨r,rfl,h⟩
 exact h
theorem W17 (qV:S23) (wf:S46_48) (AC:S47) (KE:S49) (w0) (X0) (h_:ak) (k_:Int) (a1) (c1) (a2) (c2) (Q:fw->Prop) (hm:VC17 h_ k_ Q) (h1:RS ay w0 X0 a1 h_.ae c1) (h2:RS aM w0 X0 a2 h_.ao c2) :
  Ret Tryz.prog 17 #[.agg #[.slice a1 h_.ae.length c1,.slice a2 h_.ao.length c2],.int .i64 k_] aI w0 X0 (fun w X' v=>∃ r,Q r/\∃ co cn iA iz,v=.agg #[.int .i64 r.ax.ar,.int .i64 r.ax.aw,.int .i64 r.ax.aE,.slice co r.ax.Rows.length cn,.slice iA r.ao.length iz]/\RS az w X' co r.ax.Rows cn/\RS aO w X' iA r.ao iz):=by
 unfold VC17 at hm
 replace hm:=hm (h1.sm kr)
 replace hm:=hm (h2.sm kr)
 refine enter Tryz.func17 rfl (vals:=[.agg #[.slice a1 h_.ae.length c1,.slice a2 h_.ao.length c2],.int .i64 k_]) kr ?_
 intro Z a hS hO hM
 replace h1:=h1.m0 hM
 replace h2:=h2.m0 hM
 refine rM T hS ⟨[(2,Pt 3 0),(3,Pt 4 0),(4,Pt 5 0)],[(3,(25,[Sl a1 h_.ae c1,Sl a2 h_.ao c2])),(4,(3,[I k_])),(5,(51,[I 0,I 0,I 0,V (.slice none 0 0),V (.slice none 0 0)]))]⟩ fun Z a py q6 hS hE hr=>?_
 replace hO:=hO.m2 hE
 replace h1:=h1.m1 hE
 replace h2:=h2.m1 hE
 clear hE hr
 refine bc ?_
 refine bl ?_
 refine oPe T hS 1 [] [(10,V (.agg #[.slice a1 h_.ae.length c1,.slice a2 h_.ao.length c2]))] fun a hS=>?_
 obtain ⟨hq,hm⟩:=hm
 refine op1 (call hS kr kr hb23 kr (fun _ _=>rfl) (qV _ _ h_ a1 c1 a2 c2 hq h1 h2) ?_)
 intro v101 a eX e8 hE hp hS
 replace hO:=hO.m2 hE
 replace h1:=h1.m1 hE
 replace h2:=h2.m1 hE
 obtain ⟨am,hr⟩:∃ r,aB h_=r:=⟨_,rfl⟩
 replace hm:=hm am hr
 rw [hr] at hp
 clear hr
 subst hp
 refine ePe T hS [10,11] [(6,I am.2)] fun a hS=>?_
 refine rPe T hS [6] [(26,B (((am.2 != 0) || (decide (k_ < 0))) || (decide (k_≥(lN h_.ae)))))] (sp:=[16,20]) fun a hS=>?_
 refine aG hS (b:=(((am.2 != 0) || (decide (k_ < 0))) || (decide (k_≥(lN h_.ae))))) kr (fun hb=>?_) fun hb=>?_
 ·replace hm:=hm.1 hb
  refine rM T hS ⟨[(4,Pt 5 0)],[(5,(51,[I 0,I 0,I 0,V (.slice none 0 0),V (.slice none 0 0)]))]⟩ fun Z a mE lB hS hE hr=>?_
  replace hO:=hO.m2 hE
  clear hE hr
  refine aV ?_
  exact fin T hS hO (fun c=>c) rfl (r:=[.agg #[.int .i64 0,.int .i64 0,.int .i64 0,.slice none 0 0,.slice none 0 0]]) kr (fun X' hM hC=>⟨(⟨(⟨0,0,0,[]⟩:ah),[]⟩:fw),hm,none,0,none,0,rfl,RS.empty _ _ _,RS.empty _ _ _⟩)
 replace hm:=hm.2 hb
 refine aJ ?_
 refine bl ?_
 refine oPe T hS 1 [26] [(28,V (.agg #[.slice a1 h_.ae.length c1,.slice a2 h_.ao.length c2]))] fun a hS=>?_
 obtain ⟨hq,hm⟩:=hm
 refine op1 (call hS kr kr hb47 kr (fun _ _=>rfl) (AC _ _ h_ a1 c1 a2 c2 hq h1 h2) ?_)
 intro v107 a E4 Ca hE hp hS
 replace hO:=hO.m2 hE
 replace h1:=h1.m1 hE
 replace h2:=h2.m1 hE
 obtain ⟨iy,io,hp,h113⟩:=hp
 obtain ⟨eZ,hr⟩:∃ r,bN h_=r:=⟨_,rfl⟩
 replace hm:=hm eZ hr
 rw [hr] at hp h113
 clear hr
 subst hp
 replace hm:=hm (h113.sm kr)
 refine oPe T hS 1 [28] [(30,.f (.func 48) [] [.p 3 0,.p 4 0])] fun a hS=>?_
 obtain ⟨hq,hm⟩:=hm
 refine op1 (lx hS kr kr hb46 kr (wf _ _ eZ h_ k_ iy io a1 c1 a2 c2 (Z 3) 3 (Z 4) 4 hq h113 h1 h2 (hS.cell (id:=3) (t:=25) (cs:=[Sl a1 h_.ae c1,Sl a2 h_.ao c2]) kr) (hS.cell (id:=4) (t:=3) (cs:=[I k_]) kr) ⟨by decide,by decide⟩) ?_)
 intro v114 a oX tr hE hp hS
 replace hO:=hO.m2 hE
 replace h1:=h1.m1 hE
 replace h2:=h2.m1 hE
 replace h113:=h113.m1 hE
 obtain ⟨gP,gM,hp,h120,rx,uu⟩:=hp
 obtain ⟨d6,hr⟩:∃ r,bM eZ h_ k_=r:=⟨_,rfl⟩
 replace hm:=hm d6 hr
 rw [hr] at hp h120
 clear hr
 subst hp
 replace hm:=hm (h120.sm kr)
 replace hS:=hS.cB (id:=3) (t:=25) (cs:=[Sl a1 h_.ae c1,Sl a2 h_.ao c2]) kr rx
 replace hS:=hS.cB (id:=4) (t:=3) (cs:=[I k_]) kr uu
 clear rx uu
 refine ePe T hS [29,30,31] [(7,Sl gP d6 gM)] fun a hS=>?_
 refine bl ?_
 refine oP T hS 3 ⟨[(4,Pt 5 0),(7,Sl gP d6 gM),(33,Sl a1 h_.ae c1),(34,I k_)],[(5,(51,[I 0,I 0,I 0,V (.slice none 0 0),V (.slice none 0 0)]))]⟩ fun a hS=>?_
 obtain ⟨hq,hm⟩:=hm
 refine op1 (index (e:=48) (k:=.i64) T hS kr kr kr kr h1 kr kr hq.1 hq.2 ?_)
 intro DR a h124 hS
 refine op1 (eD T hS kr kr kr h124 kr kr ?_)
 intro v125 a hv hS
 obtain ⟨vg,u5,hv,h128⟩:=hv
 subst hv
 replace hm:=hm (h128.sm kr)
 refine eM T hS ⟨[(4,Pt 5 0),(7,Sl gP d6 gM),(8,Pt 9 0)],[(5,(51,[I 0,I 0,I 0,V (.slice none 0 0),V (.slice none 0 0)])),(9,(48,(cO (gi h_.ae k_) vg u5)))]⟩ fun Z a yh wH hS hE hr=>?_
 replace hO:=hO.m2 hE
 replace h120:=h120.m1 hE
 replace h128:=h128.m1 hE
 clear hE hr
 refine bl ?_
 refine oPe T hS 2 [] [(38,Sl vg ((gi h_.ae k_).Rows) u5)] fun a hS=>?_
 obtain ⟨hq,hm⟩:=hm
 refine op1 (call hS kr kr hb49 kr (fun _ _=>rfl) (KE _ _ ((gi h_.ae k_).Rows) vg u5 hq h128) ?_)
 intro v129 a tA B6 hE hp hS
 replace hO:=hO.m2 hE
 replace h120:=h120.m1 hE
 replace h128:=h128.m1 hE
 obtain ⟨qZ,qX,hp,h135⟩:=hp
 obtain ⟨gc,hr⟩:∃ r,cY ((gi h_.ae k_).Rows)=r:=⟨_,rfl⟩
 replace hm:=hm gc hr
 rw [hr] at hp h135
 clear hr
 subst hp
 replace hm:=hm (h135.sm kr)
 refine eM T hS ⟨[(4,Pt 5 0),(7,Sl gP d6 gM),(8,Pt 9 0)],[(5,(51,[I 0,I 0,I 0,V (.slice none 0 0),V (.slice none 0 0)])),(9,(48,[I ((gi h_.ae k_).ar),I ((gi h_.ae k_).aw),I ((gi h_.ae k_).aE),Sl qZ gc qX]))]⟩ fun Z a Ad DL hS hE hr=>?_
 replace hO:=hO.m2 hE
 replace h120:=h120.m1 hE
 replace h135:=h135.m1 hE
 clear hE hr
 refine rM T hS ⟨[(4,Pt 5 0)],[(5,(51,[I ((gi h_.ae k_).ar),I ((gi h_.ae k_).aw),I ((gi h_.ae k_).aE),Sl qZ gc qX,Sl gP d6 gM]))]⟩ fun Z a r8 vi hS hE hr=>?_
 replace hO:=hO.m2 hE
 replace h120:=h120.m1 hE
 replace h135:=h135.m1 hE
 clear hE hr
 refine aV ?_
 exact fin T hS hO (fun c=>c) rfl (r:=[.agg #[.int .i64 ((gi h_.ae k_).ar),.int .i64 ((gi h_.ae k_).aw),.int .i64 ((gi h_.ae k_).aE),.slice qZ gc.length qX,.slice gP d6.length gM]]) kr (fun X' hM hC=>⟨(⟨(⟨(gi h_.ae k_).ar,(gi h_.ae k_).aw,(gi h_.ae k_).aE,gc⟩:ah),d6⟩:fw),hm,qZ,qX,gP,gM,rfl,h135.m0 hM,h120.m0 hM⟩)
theorem C17 (qV:S23) (wf:S46_48) (AC:S47) (KE:S49) (v:∀ (h_:ak) (k_:Int),xh h_ k_->VC17 h_ k_ (fun r=>r=eB h_ k_)):S17:=by
 intro w X h_ k_ a1 c1 a2 c2   hp h1 h2
 refine (W17 qV wf AC KE w X h_ k_ a1 c1 a2 c2   _ (v h_ k_ hp) h1 h2).mono ?_
 rintro _ _ _ _ ⟨r,rfl,h⟩
 exact h
theorem W24 (qV:S23) (AC:S47) (KB:S56) (w0) (X0) (h_:ak) (a1) (c1) (a2) (c2) (Q:(List ab) × (List Int)->Prop) (hm:VC24 h_ Q) (h1:RS ay w0 X0 a1 h_.ae c1) (h2:RS aM w0 X0 a2 h_.ao c2) :
  Ret Tryz.prog 24 #[.agg #[.slice a1 h_.ae.length c1,.slice a2 h_.ao.length c2]] aI w0 X0 (fun w X' v=>∃ r,Q r/\∃ co cn iA iz,v=.tuple #[.slice co r.1.length cn,.slice iA r.2.length iz]/\RS aq w X' co r.1 cn/\RS tI w X' iA r.2 iz):=by
 unfold VC24 at hm
 replace hm:=hm (h1.sm kr)
 replace hm:=hm (h2.sm kr)
 refine enter Tryz.func24 rfl (vals:=[.agg #[.slice a1 h_.ae.length c1,.slice a2 h_.ao.length c2]]) kr ?_
 intro Z a hS hO hM
 replace h1:=h1.m0 hM
 replace h2:=h2.m0 hM
 refine rM T hS ⟨[(1,Pt 2 0)],[(2,(25,[Sl a1 h_.ae c1,Sl a2 h_.ao c2]))]⟩ fun Z a Cz Gk hS hE hr=>?_
 replace hO:=hO.m2 hE
 replace h1:=h1.m1 hE
 replace h2:=h2.m1 hE
 clear hE hr
 refine bc ?_
 refine bl ?_
 refine oPe T hS 1 [] [(12,V (.agg #[.slice a1 h_.ae.length c1,.slice a2 h_.ao.length c2]))] fun a hS=>?_
 obtain ⟨hq,hm⟩:=hm
 refine op1 (call hS kr kr hb23 kr (fun _ _=>rfl) (qV _ _ h_ a1 c1 a2 c2 hq h1 h2) ?_)
 intro v101 a eX e8 hE hp hS
 replace hO:=hO.m2 hE
 replace h1:=h1.m1 hE
 replace h2:=h2.m1 hE
 obtain ⟨am,hr⟩:∃ r,aB h_=r:=⟨_,rfl⟩
 replace hm:=hm am hr
 rw [hr] at hp
 clear hr
 subst hp
 refine ePe T hS [12,13] [(5,I am.2)] fun a hS=>?_
 refine rPe T hS [5] [(17,B (am.2 != 0))] fun a hS=>?_
 refine aG hS (b:=(am.2 != 0)) kr (fun hb=>?_) fun hb=>?_
 ·replace hm:=hm.1 hb
  refine rP T hS ⟨[(2,V (.slice none 0 0)),(3,V (.slice none 0 0))],[]⟩ fun a hS=>?_
  refine aV ?_
  exact fin T hS hO (fun c=>c) rfl (r:=[.slice none 0 0,.slice none 0 0]) kr (fun X' hM hC=>⟨([],[]),hm,none,0,none,0,rfl,RS.empty _ _ _,RS.empty _ _ _⟩)
 replace hm:=hm.2 hb
 refine aJ ?_
 refine bl ?_
 refine oPe T hS 1 [17] [(19,V (.agg #[.slice a1 h_.ae.length c1,.slice a2 h_.ao.length c2]))] fun a hS=>?_
 obtain ⟨hq,hm⟩:=hm
 refine op1 (call hS kr kr hb47 kr (fun _ _=>rfl) (AC _ _ h_ a1 c1 a2 c2 hq h1 h2) ?_)
 intro v105 a mD mj hE hp hS
 replace hO:=hO.m2 hE
 replace h1:=h1.m1 hE
 replace h2:=h2.m1 hE
 obtain ⟨cx,cw,hp,h111⟩:=hp
 obtain ⟨aZ,hr⟩:∃ r,bN h_=r:=⟨_,rfl⟩
 replace hm:=hm aZ hr
 rw [hr] at hp h111
 clear hr
 subst hp
 replace hm:=hm (h111.sm kr)
 refine op1 (call hS kr kr hb56 kr (fun _ _=>rfl) (KB _ _ aZ cx cw h111) ?_)
 intro v112 a tE vj hE hp hS
 replace hO:=hO.m2 hE
 replace h1:=h1.m1 hE
 replace h2:=h2.m1 hE
 replace h111:=h111.m1 hE
 obtain ⟨dN,dM,hp,h118⟩:=hp
 obtain ⟨cJ,hr⟩:∃ r,gl aZ=r:=⟨_,rfl⟩
 replace hm:=hm cJ hr
 rw [hr] at hp h118
 clear hr
 subst hp
 replace hm:=hm (h118.sm kr)
 refine ePe T hS [19,20,21] [(6,Sl dN cJ.1 dM)] fun a hS=>?_
 refine rPe T hS [] [(8,V (.slice none 0 0))] fun a hS=>?_
 refine b5 (fun a w=>∃ (Z:Nat->Nat) (X:Nat->Nat) (d3:List Int) (mi:Option Addr) (mf:Nat),VC24_J1 Q cJ d3/\St Tryz.f24.ntmps ⟨[(6,Sl dN cJ.1 dM),(8,Sl mi d3 mf)],[]⟩ Z a w X/\Old w0 X0 w X/\RS aq w X dN cJ.1 dM/\OS tI 3 w X 1004 mi d3 mf) ?_ ?_
 ·refine rPe T hS [] [(24,Sl dN cJ.1 dM),(25,I (lN cJ.1)),(26,I 0)] fun a hS=>?_
  refine aK ?_
  obtain ⟨I1,μ1,ci,hm⟩:=hm
  refine cg (σ:=(List Int) × Int) (fun s a w=>∃ Z X hZ hY,I1 s.1 s.2/\St Tryz.f24.ntmps ⟨[(1,Pt 2 0),(6,Sl dN cJ.1 dM),(8,Sl hZ s.1 hY),(24,Sl dN cJ.1 dM),(25,I (lN cJ.1)),(26,I s.2)],[(2,(25,[Sl a1 h_.ae c1,Sl a2 h_.ao c2]))]⟩ Z a w X/\Old w0 X0 w X/\RS aq w X dN cJ.1 dM/\OS tI 3 w X 1004 hZ s.1 hY/\RS aq w X dN cJ.1 dM/\RS ay w X a1 h_.ae c1/\RS aM w X a2 h_.ao c2) (fun s=>μ1 s.1 s.2) (⟨[],0⟩) ?_ ?_
  ·exact ⟨Z,_,none,0,ci,hS.sl _,hO,h118,(OS.nil _ _ _ _ _),h118,h1,h2⟩
  rintro ⟨cU,gm⟩ a EU ⟨Z,Mt,hZ,hY,hI,hS,hO,h126,h130,h131,h133,h134⟩
  replace hm:=hm cU gm hI
  clear hI ci
  refine rPe T hS [] [(27,B (decide (gm < (lN cJ.1))))] fun a hS=>?_
  refine bc ?_
  refine aG hS (b:=decide (gm < (lN cJ.1))) kr (fun hb=>?_) fun hb=>?_
  ·replace hm:=hm.1 hb
   refine aJ (bc ?_)
   refine aK ?_
   refine bl ?_
   obtain ⟨hq,hm⟩:=hm
   refine op1 (index (e:=102) (k:=.i64) T hS kr kr kr kr h131 kr kr hq.1 hq.2 ?_)
   intro I8 a h136 hS
   refine op1 (eD T hS kr kr kr h136 kr kr ?_)
   intro v137 a hv hS
   subst hv
   refine eM T hS ⟨[(1,Pt 2 0),(6,Sl dN cJ.1 dM),(8,Sl hZ cU hY),(10,Pt 11 0),(24,Sl dN cJ.1 dM),(25,I (lN cJ.1)),(26,I gm)],[(2,(25,[Sl a1 h_.ae c1,Sl a2 h_.ao c2])),(11,(102,(cP (gi cJ.1 gm))))]⟩ fun Z a EV IU hS hE hr=>?_
   replace hO:=hO.m2 hE
   replace h126:=h126.m1 hE
   replace h130:=h130.m2 hE
   replace h131:=h131.m1 hE
   replace h133:=h133.m1 hE
   replace h134:=h134.m1 hE
   clear hE hr
   refine region ?_
   refine oP T hS 5 ⟨[(1,Pt 2 0),(6,Sl dN cJ.1 dM),(8,Sl hZ cU hY),(24,Sl dN cJ.1 dM),(25,I (lN cJ.1)),(26,I gm),(30,Sl hZ cU hY),(32,Sl a2 h_.ao c2),(34,I ((gi cJ.1 gm).aF))],[(2,(25,[Sl a1 h_.ae c1,Sl a2 h_.ao c2]))]⟩ fun a hS=>?_
   obtain ⟨hq,hm⟩:=hm
   refine op1 (index (e:=63) (k:=.i64) T hS kr kr kr kr h134 kr kr hq.1 hq.2 ?_)
   intro Gt a h139 hS
   refine op1 (e7 (off:=0) (fsz:=1) (ft:=3) (TF:=tI) (y:=(gi h_.ao ((gi cJ.1 gm).aF)).ax) T hS kr kr kr h139 kr kr kr (fun cs h=>jT h) ?_)
   intro Gs a h141 hS
   refine op1 (dL T hS kr kr kr h141 rfl kr ?_)
   intro v142 a hv hS
   cases hv
   refine op1 (lit (E:=3) (col:=0) (T:=tI) (vals:=[.int .i64 ((gi h_.ao ((gi cJ.1 gm).aF)).ax)]) (ys:=[(gi h_.ao ((gi cJ.1 gm).aF)).ax]) T hS kr kr kr kr (by exact ⟨rfl,trivial⟩) rfl kr kr kr kr ?_)
   intro b143 a Ac wG hE h146 hN hS
   clear hN
   replace hO:=hO.m2 hE
   replace h126:=h126.m1 hE
   replace h130:=h130.m2 hE
   replace h131:=h131.m1 hE
   replace h133:=h133.m1 hE
   replace h134:=h134.m1 hE
   replace h139:=h139.m1 hE
   replace h141:=h141.m1 hE
   replace h146:=h146.rs0
   obtain ⟨hq,hm⟩:=hm
   obtain ⟨news,hN⟩:=h146.src
   refine op1 (append (E:=3) (T:=tI) (col:=1004) (xs:=cU) T hS kr kr kr kr h130 hN kr kr kr kr hq ?_)
   intro tm tg a vy zJ hE h149 hS
   clear hq hN
   clear h130
   replace hO:=hO.m2 hE
   replace h126:=h126.m1 hE
   replace h131:=h131.m1 hE
   replace h133:=h133.m1 hE
   replace h134:=h134.m1 hE
   replace h139:=h139.m1 hE
   replace h141:=h141.m1 hE
   replace h146:=h146.m1 hE
   refine ePe T hS [32,34,35,36,37,38,39] [(8,Sl tm (cU++[(gi h_.ao ((gi cJ.1 gm).aF)).ax]) tg)] fun a hS=>?_
   refine region (ePe T hS [] [(26,I (wR (gm+1)))] fun a hS=>?_)
   exact ⟨⟨cU++[(gi h_.ao ((gi cJ.1 gm).aF)).ax],wR (gm+1)⟩,⟨Z,_,tm,tg,hm.1,hS.sl _,hO,h126,h149,h131,h133,h134⟩,hm.2⟩
  replace hm:=hm.2 hb
  refine cb (by rfl) ?_
  exact ⟨Z,_,cU,hZ,hY,hm,hS.sl _,hO,h126,h130⟩
 rintro a yg ⟨Z,B4,d3,mi,mf,hm,hS,hO,h119,h123⟩
 unfold VC24_J1 at hm
 refine rPe T hS [6,8] [(2,Sl dN cJ.1 dM),(3,Sl mi d3 mf)] fun a hS=>?_
 refine aV ?_
 obtain ⟨wJ,hE,hF⟩:=h123.freeze (by decide)
 replace hS:=hS.ev hE (cq kr)
 replace hO:=hO.m2 hE
 replace h119:=h119.m1 hE
 have h125:=hF; clear hE hF
 exact fin T hS hO (fun c=>c) rfl (r:=[.slice dN cJ.1.length dM,.slice mi d3.length mf]) kr (fun X' hM hC=>⟨(cJ.1,d3),hm,dN,dM,mi,mf,rfl,h119.m0 hM,h125.m0 hM⟩)
theorem C24 (qV:S23) (AC:S47) (KB:S56) (v:∀ (h_:ak),fQ h_->VC24 h_ (fun r=>r=cA h_)):S24:=by
 intro w X h_ a1 c1 a2 c2   hp h1 h2
 refine (W24 qV AC KB w X h_ a1 c1 a2 c2   _ (v h_ hp) h1 h2).mono ?_
 rintro _ _ _ _ ⟨r,rfl,h⟩
 exact h
theorem W16 (KU:S18) (FB:S28) (Fx:S45) (w0) (X0) (objects:List ah) (l_:List aD) (a1) (c1) (a2) (c2) (Q:(List ab) × (List Int)->Prop) (hm:VC16 objects l_ Q) (h1:RS ay w0 X0 a1 objects c1) (h2:RS bA w0 X0 a2 l_ c2) :
  Ret Tryz.prog 16 #[.slice a1 objects.length c1,.slice a2 l_.length c2] aI w0 X0 (fun w X' v=>∃ r,Q r/\∃ co cn iA iz,v=.tuple #[.slice co r.1.length cn,.slice iA r.2.length iz]/\RS aq w X' co r.1 cn/\RS tI w X' iA r.2 iz):=by
 unfold VC16 at hm
 replace hm:=hm (h1.sm kr)
 replace hm:=hm (h2.sm kr)
 refine enter Tryz.func16 rfl (vals:=[.slice a1 objects.length c1,.slice a2 l_.length c2]) kr ?_
 intro Z a hS hO hM
 replace h1:=h1.m0 hM
 replace h2:=h2.m0 hM
 refine rPe T hS [] [] fun a hS=>?_
 refine bl ?_
 refine oPe T hS 2 [0] [(13,Sl a1 objects c1),(14,Sl a2 l_ c2)] fun a hS=>?_
 obtain ⟨hq,hm⟩:=hm
 refine op1 (call hS kr kr hb28 kr (fun _ _=>rfl) (FB _ _ objects l_ a1 c1 a2 c2 hq h1 h2) ?_)
 intro v101 a eX e8 hE hp hS
 replace hO:=hO.m2 hE
 replace h1:=h1.m1 hE
 replace h2:=h2.m1 hE
 obtain ⟨am,hr⟩:∃ r,dz objects l_=r:=⟨_,rfl⟩
 replace hm:=hm am hr
 rw [hr] at hp
 clear hr
 subst hp
 refine ePe T hS [13,14,15] [(7,I am.2)] fun a hS=>?_
 refine bc ?_
 refine rPe T hS [7] [(19,B (am.2 != 0))] fun a hS=>?_
 refine aG hS (b:=(am.2 != 0)) kr (fun hb=>?_) fun hb=>?_
 ·replace hm:=hm.1 hb
  refine rPe T hS [1,19] [(4,V (.slice none 0 0)),(5,V (.slice none 0 0))] fun a hS=>?_
  refine aV ?_
  exact fin T hS hO (fun c=>c) rfl (r:=[.slice none 0 0,.slice none 0 0]) kr (fun X' hM hC=>⟨([],[]),hm,none,0,none,0,rfl,RS.empty _ _ _,RS.empty _ _ _⟩)
 replace hm:=hm.2 hb
 refine aJ ?_
 refine bl ?_
 refine oPe T hS 1 [19] [(21,Sl a2 l_ c2)] fun a hS=>?_
 obtain ⟨hq,hm⟩:=hm
 refine op1 (call hS kr kr hb45 kr (fun _ _=>rfl) (Fx _ _ l_ a2 c2 hq h2) ?_)
 intro v105 a mD mj hE hp hS
 replace hO:=hO.m2 hE
 replace h2:=h2.m1 hE
 obtain ⟨cx,cw,hp,h111⟩:=hp
 obtain ⟨aZ,hr⟩:∃ r,cl l_=r:=⟨_,rfl⟩
 replace hm:=hm aZ hr
 rw [hr] at hp h111
 clear hr
 subst hp
 replace hm:=hm (h111.sm kr)
 refine op1 (call hS kr kr hb18 kr (fun _ _=>rfl) (KU _ _ aZ cx cw h111) ?_)
 intro v112 a tE vj hE hp hS
 replace hO:=hO.m2 hE
 replace h2:=h2.m1 hE
 replace h111:=h111.m1 hE
 obtain ⟨dN,dM,hp,h118⟩:=hp
 obtain ⟨cJ,hr⟩:∃ r,iq aZ=r:=⟨_,rfl⟩
 replace hm:=hm cJ hr
 rw [hr] at hp h118
 clear hr
 subst hp
 replace hm:=hm (h118.sm kr)
 refine ePe T hS [21,22,23] [(8,Sl dN cJ.1 dM)] fun a hS=>?_
 refine rPe T hS [] [(10,V (.slice none 0 0))] fun a hS=>?_
 refine b5 (fun a w=>∃ (Z:Nat->Nat) (X:Nat->Nat) (d3:List Int) (mi:Option Addr) (mf:Nat),VC16_J1 Q cJ d3/\St Tryz.f16.ntmps ⟨[(8,Sl dN cJ.1 dM),(10,Sl mi d3 mf)],[]⟩ Z a w X/\Old w0 X0 w X/\RS aq w X dN cJ.1 dM/\OS tI 3 w X 1006 mi d3 mf) ?_ ?_
 ·refine rPe T hS [] [(11,I 0)] fun a hS=>?_
  refine aK ?_
  obtain ⟨I1,μ1,ci,hm⟩:=hm
  refine cg (σ:=(List Int) × Int) (fun s a w=>∃ Z X lh le,I1 s.1 s.2/\St Tryz.f16.ntmps ⟨[(1,Sl a2 l_ c2),(8,Sl dN cJ.1 dM),(10,Sl lh s.1 le),(11,I s.2)],[]⟩ Z a w X/\Old w0 X0 w X/\RS bA w X a2 l_ c2/\RS aq w X dN cJ.1 dM/\OS tI 3 w X 1006 lh s.1 le) (fun s=>μ1 s.1 s.2) (⟨[],0⟩) ?_ ?_
  ·exact ⟨Z,_,none,0,ci,hS.sl _,hO,h2,h118,(OS.nil _ _ _ _ _)⟩
  rintro ⟨fF,gm⟩ a z9 ⟨Z,wE,lh,le,hI,hS,hO,h126,h127,h131⟩
  replace hm:=hm fF gm hI
  clear hI ci
  refine bc ?_
  refine rPe T hS [] [(29,B (decide (gm < (lN cJ.1))))] fun a hS=>?_
  refine aG hS (b:=decide (gm < (lN cJ.1))) kr (fun hb=>?_) fun hb=>?_
  ·replace hm:=hm.1 hb
   refine aJ (bc ?_)
   refine aK ?_
   refine region ?_
   refine oPe T hS 4 [29] [(32,Sl lh fF le),(33,Sl a2 l_ c2),(34,Sl dN cJ.1 dM),(35,I gm)] fun a hS=>?_
   obtain ⟨hq,hm⟩:=hm
   refine op1 (index (e:=102) (k:=.i64) T hS kr kr kr kr h127 kr kr hq.1 hq.2 ?_)
   intro ME a h134 hS
   refine op1 (e7 (off:=2) (fsz:=1) (ft:=3) (TF:=tI) (y:=(gi cJ.1 gm).aF) T hS kr kr kr h134 kr kr kr (fun cs h=>oT h) ?_)
   intro I8 a h136 hS
   refine op1 (dL T hS kr kr kr h136 rfl kr ?_)
   intro v137 a hv hS
   cases hv
   obtain ⟨hq,hm⟩:=hm
   refine op1 (index (e:=77) (k:=.i64) T hS kr kr kr kr h126 kr kr hq.1 hq.2 ?_)
   intro Gt a h139 hS
   refine op1 (e7 (off:=0) (fsz:=1) (ft:=3) (TF:=tI) (y:=(gi l_ ((gi cJ.1 gm).aF)).ax) T hS kr kr kr h139 kr kr kr (fun cs h=>lT h) ?_)
   intro Gs a h141 hS
   refine op1 (dL T hS kr kr kr h141 rfl kr ?_)
   intro v142 a hv hS
   cases hv
   refine op1 (lit (E:=3) (col:=0) (T:=tI) (vals:=[.int .i64 ((gi l_ ((gi cJ.1 gm).aF)).ax)]) (ys:=[(gi l_ ((gi cJ.1 gm).aF)).ax]) T hS kr kr kr kr (by exact ⟨rfl,trivial⟩) rfl kr kr kr kr ?_)
   intro b143 a Ac wG hE h146 hN hS
   clear hN
   replace hO:=hO.m2 hE
   replace h126:=h126.m1 hE
   replace h127:=h127.m1 hE
   replace h131:=h131.m2 hE
   replace h134:=h134.m1 hE
   replace h136:=h136.m1 hE
   replace h139:=h139.m1 hE
   replace h141:=h141.m1 hE
   replace h146:=h146.rs0
   obtain ⟨hq,hm⟩:=hm
   obtain ⟨news,hN⟩:=h146.src
   refine op1 (append (E:=3) (T:=tI) (col:=1006) (xs:=fF) T hS kr kr kr kr h131 hN kr kr kr kr hq ?_)
   intro tm tg a vy zJ hE h149 hS
   clear hq hN
   clear h131
   replace hO:=hO.m2 hE
   replace h126:=h126.m1 hE
   replace h127:=h127.m1 hE
   replace h134:=h134.m1 hE
   replace h136:=h136.m1 hE
   replace h139:=h139.m1 hE
   replace h141:=h141.m1 hE
   replace h146:=h146.m1 hE
   refine ePe T hS [33,34,35,36,37,38,39,40,41,42,43] [(10,Sl tm (fF++[(gi l_ ((gi cJ.1 gm).aF)).ax]) tg)] fun a hS=>?_
   refine region (ePe T hS [] [(11,I (wR (gm+1)))] fun a hS=>?_)
   exact ⟨⟨fF++[(gi l_ ((gi cJ.1 gm).aF)).ax],wR (gm+1)⟩,⟨Z,_,tm,tg,hm.1,hS.sl _,hO,h126,h127,h149⟩,hm.2⟩
  replace hm:=hm.2 hb
  refine cb (by rfl) ?_
  exact ⟨Z,_,fF,lh,le,hm,hS.sl _,hO,h127,h131⟩
 rintro a EU ⟨Z,Mt,d3,mi,mf,hm,hS,hO,h119,h123⟩
 unfold VC16_J1 at hm
 refine rPe T hS [8,10] [(4,Sl dN cJ.1 dM),(5,Sl mi d3 mf)] fun a hS=>?_
 refine aV ?_
 obtain ⟨wJ,hE,hF⟩:=h123.freeze (by decide)
 replace hS:=hS.ev hE (cq kr)
 replace hO:=hO.m2 hE
 replace h119:=h119.m1 hE
 have h125:=hF; clear hE hF
 exact fin T hS hO (fun c=>c) rfl (r:=[.slice dN cJ.1.length dM,.slice mi d3.length mf]) kr (fun X' hM hC=>⟨(cJ.1,d3),hm,dN,dM,mi,mf,rfl,h119.m0 hM,h125.m0 hM⟩)
theorem C16 (KU:S18) (FB:S28) (Fx:S45) (v:∀ (objects:List ah) (l_:List aD),km objects l_->VC16 objects l_ (fun r=>r=bb objects l_)):S16:=by
 intro w X objects l_ a1 c1 a2 c2   hp h1 h2
 refine (W16 KU FB Fx w X objects l_ a1 c1 a2 c2   _ (v objects l_ hp) h1 h2).mono ?_
 rintro _ _ _ _ ⟨r,rfl,h⟩
 exact h
theorem W41 (qV:S23) (AY:S24) (w0) (X0) (h_:ak) (a1) (c1) (a2) (c2) (Q:(List ab) × (List Int) × Int->Prop) (hm:VC41 h_ Q) (h1:RS ay w0 X0 a1 h_.ae c1) (h2:RS aM w0 X0 a2 h_.ao c2) :
  Ret Tryz.prog 41 #[.agg #[.slice a1 h_.ae.length c1,.slice a2 h_.ao.length c2]] aI w0 X0 (fun w X' v=>∃ r,Q r/\∃ co cn iA iz,v=.tuple #[.slice co r.1.length cn,.slice iA r.2.1.length iz,.int .i64 r.2.2]/\RS aq w X' co r.1 cn/\RS tI w X' iA r.2.1 iz):=by
 unfold VC41 at hm
 replace hm:=hm (h1.sm kr)
 replace hm:=hm (h2.sm kr)
 refine enter Tryz.func41 rfl (vals:=[.agg #[.slice a1 h_.ae.length c1,.slice a2 h_.ao.length c2]]) kr ?_
 intro Z a hS hO hM
 replace h1:=h1.m0 hM
 replace h2:=h2.m0 hM
 refine rM T hS ⟨[(1,Pt 2 0)],[(2,(25,[Sl a1 h_.ae c1,Sl a2 h_.ao c2]))]⟩ fun Z a oX tr hS hE hr=>?_
 replace hO:=hO.m2 hE
 replace h1:=h1.m1 hE
 replace h2:=h2.m1 hE
 clear hE hr
 refine bc ?_
 refine bl ?_
 refine oPe T hS 1 [] [(10,V (.agg #[.slice a1 h_.ae.length c1,.slice a2 h_.ao.length c2]))] fun a hS=>?_
 obtain ⟨hq,hm⟩:=hm
 refine op1 (call hS kr kr hb23 kr (fun _ _=>rfl) (qV _ _ h_ a1 c1 a2 c2 hq h1 h2) ?_)
 intro v101 a eX e8 hE hp hS
 replace hO:=hO.m2 hE
 replace h1:=h1.m1 hE
 replace h2:=h2.m1 hE
 obtain ⟨am,hr⟩:∃ r,aB h_=r:=⟨_,rfl⟩
 replace hm:=hm am hr
 rw [hr] at hp
 clear hr
 subst hp
 refine ePe T hS [10,11] [(6,I am.2)] fun a hS=>?_
 refine rPe T hS [] [(15,B (am.2 != 0))] fun a hS=>?_
 refine aG hS (b:=(am.2 != 0)) kr (fun hb=>?_) fun hb=>?_
 ·replace hm:=hm.1 hb
  refine rP T hS ⟨[(2,V (.slice none 0 0)),(3,V (.slice none 0 0)),(4,I am.2)],[]⟩ fun a hS=>?_
  refine aV ?_
  exact fin T hS hO (fun c=>c) rfl (r:=[.slice none 0 0,.slice none 0 0,.int .i64 am.2]) kr (fun X' hM hC=>⟨([],[],am.2),hm,none,0,none,0,rfl,RS.empty _ _ _,RS.empty _ _ _⟩)
 replace hm:=hm.2 hb
 refine aJ ?_
 refine bl ?_
 refine oP T hS 1 ⟨[(18,V (.agg #[.slice a1 h_.ae.length c1,.slice a2 h_.ao.length c2]))],[]⟩ fun a hS=>?_
 obtain ⟨hq,hm⟩:=hm
 refine op1 (call hS kr kr hb24 kr (fun _ _=>rfl) (AY _ _ h_ a1 c1 a2 c2 hq h1 h2) ?_)
 intro v105 a mD mj hE hp hS
 replace hO:=hO.m2 hE
 replace h1:=h1.m1 hE
 replace h2:=h2.m1 hE
 obtain ⟨cx,cw,gE,gC,hp,h111,h114⟩:=hp
 obtain ⟨aZ,hr⟩:∃ r,cA h_=r:=⟨_,rfl⟩
 replace hm:=hm aZ hr
 rw [hr] at hp h111 h114
 clear hr
 subst hp
 replace hm:=hm (h111.sm kr)
 replace hm:=hm (h114.sm kr)
 refine ePe T hS [18,19] [(7,Sl cx aZ.1 cw),(8,Sl gE aZ.2 gC)] fun a hS=>?_
 refine bc ?_
 refine rPe T hS [] [(24,B (decide ((lN aZ.1) > 20)))] fun a hS=>?_
 refine aG hS (b:=decide ((lN aZ.1) > 20)) kr (fun hb=>?_) fun hb=>?_
 ·replace hm:=hm.1 hb
  refine rPe T hS [7,8,24] [(2,V (.slice none 0 0)),(3,V (.slice none 0 0)),(4,I 3)] fun a hS=>?_
  refine aV ?_
  exact fin T hS hO (fun c=>c) rfl (r:=[.slice none 0 0,.slice none 0 0,.int .i64 3]) kr (fun X' hM hC=>⟨([],[],3),hm,none,0,none,0,rfl,RS.empty _ _ _,RS.empty _ _ _⟩)
 replace hm:=hm.2 hb
 refine aJ ?_
 refine rPe T hS [7,8,24] [(2,Sl cx aZ.1 cw),(3,Sl gE aZ.2 gC),(4,I 0)] fun a hS=>?_
 refine aV ?_
 exact fin T hS hO (fun c=>c) rfl (r:=[.slice cx aZ.1.length cw,.slice gE aZ.2.length gC,.int .i64 0]) kr (fun X' hM hC=>⟨(aZ.1,aZ.2,0),hm,cx,cw,gE,gC,rfl,h111.m0 hM,h114.m0 hM⟩)
theorem C41 (qV:S23) (AY:S24) (v:∀ (h_:ak),fQ h_->VC41 h_ (fun r=>r=cd h_)):S41:=by
 intro w X h_ a1 c1 a2 c2   hp h1 h2
 refine (W41 qV AY w X h_ a1 c1 a2 c2   _ (v h_ hp) h1 h2).mono ?_
 rintro _ _ _ _ ⟨r,rfl,h⟩
 exact h
theorem W69 (w0) (X0) (of:List Int) (k_:Int) (a1) (c1) (Q:(List Int)->Prop) (hm:VC69 of k_ Q) (h1:RS tI w0 X0 a1 of c1) :
  Ret Tryz.prog 69 #[.slice a1 of.length c1,.int .i64 k_] aI w0 X0 (fun w X' v=>∃ r,Q r/\∃ co cn,v=.slice co r.length cn/\RS tI w X' co r cn):=by
 unfold VC69 at hm
 replace hm:=hm (h1.sm kr)
 refine enter Tryz.func69 rfl (vals:=[.slice a1 of.length c1,.int .i64 k_]) kr ?_
 intro Z a hS hO hM
 replace h1:=h1.m0 hM
 refine rPe T hS [] [] fun a hS=>?_
 refine rPe T hS [] [(5,V (.slice none 0 0))] fun a hS=>?_
 refine b5 (fun a w=>∃ (Z:Nat->Nat) (X:Nat->Nat) (bv:List Int) (dm:Option Addr) (dl:Nat),VC69_J1 Q bv/\St Tryz.f69.ntmps ⟨[(5,Sl dm bv dl)],[]⟩ Z a w X/\Old w0 X0 w X/\OS tI 3 w X 1005 dm bv dl) ?_ ?_
 ·refine rPe T hS [0] [(8,Sl a1 of c1),(9,I (lN of)),(10,I 0)] fun a hS=>?_
  refine aK ?_
  obtain ⟨I1,μ1,ci,hm⟩:=hm
  refine cg (σ:=(List Int) × Int) (fun s a w=>∃ Z X gr gq,I1 s.1 s.2/\St Tryz.f69.ntmps ⟨[(1,I k_),(5,Sl gr s.1 gq),(8,Sl a1 of c1),(9,I (lN of)),(10,I s.2)],[]⟩ Z a w X/\Old w0 X0 w X/\OS tI 3 w X 1005 gr s.1 gq/\RS tI w X a1 of c1) (fun s=>μ1 s.1 s.2) (⟨[],0⟩) ?_ ?_
  ·exact ⟨Z,_,none,0,ci,hS.sl _,hO,(OS.nil _ _ _ _ _),h1⟩
  rintro ⟨gu,cW⟩ a yi ⟨Z,ow,gr,gq,hI,hS,hO,h110,h111⟩
  replace hm:=hm gu cW hI
  clear hI ci
  refine rPe T hS [] [(11,B (decide (cW < (lN of))))] fun a hS=>?_
  refine bc ?_
  refine aG hS (b:=decide (cW < (lN of))) kr (fun hb=>?_) fun hb=>?_
  ·replace hm:=hm.1 hb
   refine aJ ?_
   refine b5 (fun a w=>∃ (Z:Nat->Nat) (X:Nat->Nat) (bd:List Int) (lA:Option Addr) (lw:Nat),VC69_J2 I1 μ1 gu cW bd/\St Tryz.f69.ntmps ⟨[(1,I k_),(5,Sl lA bd lw),(8,Sl a1 of c1),(9,I (lN of)),(10,I cW)],[]⟩ Z a w X/\Old w0 X0 w X/\OS tI 3 w X 1005 lA bd lw/\RS tI w X a1 of c1) ?_ ?_
   ·refine aK ?_
    refine bl ?_
    refine oPe T hS 1 [11] [(12,I cW)] fun a hS=>?_
    obtain ⟨hq,hm⟩:=hm
    refine op1 (index (e:=3) (k:=.i64) T hS kr kr kr kr h111 kr kr hq.1 hq.2 ?_)
    intro Gw a h119 hS
    refine op1 (dL T hS kr kr kr h119 rfl kr ?_)
    intro v120 a hv hS
    cases hv
    refine ePe T hS [12,13,14] [(6,I cW),(7,I (gi of cW))] fun a hS=>?_
    refine rPe T hS [7] [(17,B ((gi of cW) == k_))] fun a hS=>?_
    refine aG hS (b:=((gi of cW) == k_)) kr (fun hb=>?_) fun hb=>?_
    ·replace hm:=hm.1 hb
     refine region ?_
     refine oPe T hS 2 [6,17] [(18,Sl gr gu gq),(19,I cW)] fun a hS=>?_
     refine op1 (lit (E:=3) (col:=0) (T:=tI) (vals:=[.int .i64 cW]) (ys:=[cW]) T hS kr kr kr kr (by exact ⟨rfl,trivial⟩) rfl kr kr kr kr ?_)
     intro b121 a tC tq hE h124 hN hS
     clear hN
     replace hO:=hO.m2 hE
     replace h110:=h110.m2 hE
     replace h111:=h111.m1 hE
     replace h124:=h124.rs0
     obtain ⟨hq,hm⟩:=hm
     obtain ⟨news,hN⟩:=h124.src
     refine op1 (append (E:=3) (T:=tI) (col:=1005) (xs:=gu) T hS kr kr kr kr h110 hN kr kr kr kr hq ?_)
     intro hZ hY a yj wI hE h127 hS
     clear hq hN
     clear h110
     replace hO:=hO.m2 hE
     replace h111:=h111.m1 hE
     replace h124:=h124.m1 hE
     refine ePe T hS [19,20,21] [(5,Sl hZ (gu++[cW]) hY)] fun a hS=>?_
     exact ⟨Z,_,gu++[cW],hZ,hY,hm,hS.sl _,hO,h127,h111⟩
    replace hm:=hm.2 hb
    refine aJ ?_
    exact ⟨Z,_,gu,gr,gq,hm,hS.sl _,hO,h110,h111⟩
   rintro a oW ⟨Z,DM,bd,lA,lw,hm,hS,hO,h116,h117⟩
   unfold VC69_J2 at hm
   refine region (ePe T hS [] [(10,I (wR (cW+1)))] fun a hS=>?_)
   exact ⟨⟨bd,wR (cW+1)⟩,⟨Z,_,lA,lw,hm.1,hS.sl _,hO,h116,h117⟩,hm.2⟩
  replace hm:=hm.2 hb
  refine cb (by rfl) ?_
  exact ⟨Z,_,gu,gr,gq,hm,hS.sl _,hO,h110⟩
 rintro a CC ⟨Z,B5,bv,dm,dl,hm,hS,hO,h104⟩
 unfold VC69_J1 at hm
 refine rPe T hS [5] [(4,Sl dm bv dl)] fun a hS=>?_
 refine aV ?_
 obtain ⟨ox,hE,hF⟩:=h104.freeze (by decide)
 replace hS:=hS.ev hE (cq kr)
 replace hO:=hO.m2 hE
 have h106:=hF; clear hE hF
 exact fin T hS hO (fun c=>c) rfl (r:=[.slice dm bv.length dl]) kr (fun X' hM hC=>⟨bv,hm,dm,dl,rfl,h106.m0 hM⟩)
theorem C69 (v:∀ (of:List Int) (k_:Int),rq of k_->VC69 of k_ (fun r=>r=aP of k_)):S69:=by
 intro w X of k_ a1 c1   hp h1
 refine (W69 w X of k_ a1 c1   _ (v of k_ hp) h1).mono ?_
 rintro _ _ _ _ ⟨r,rfl,h⟩
 exact h
theorem W72 (w0) (X0) (i_:Int) (al:List Int) (ap:Int) (a1) (c1) (b1) (i1) (b2) (i2) (Q:Bool->Prop) (hm:VC72 i_ al ap Q) (h1:RS tI w0 X0 a1 al c1) (fb:Cell w0 X0 b1 i1 43 [.slice a1 al.length c1]) (gp:Cell w0 X0 b2 i2 3 [.int .i64 ap]) (hA:dP [i1,i2]) :
  Ret Tryz.prog 72 #[.int .i64 i_,.pointer (some ⟨b1,0,none⟩),.pointer (some ⟨b2,0,none⟩)] (pR [i1,i2]) w0 X0 (fun w X' v=>∃ r,Q r/\v=.bool r/\Cell w X' b1 i1 43 [.slice a1 al.length c1]/\Cell w X' b2 i2 3 [.int .i64 ap]):=by
 unfold VC72 at hm
 replace hm:=hm (h1.sm kr)
 refine fv Tryz.func72 rfl (dB [(i1,901),(i2,902)]) (fun id=>(bif Nat.beq id 901 then b1 else (bif Nat.beq id 902 then b2 else 0))) (args:=[I i_,Pt 901 0,Pt 902 0]) (bxs:=[(901,(43,[Sl a1 al c1])),(902,(3,[I ap]))]) kr rfl (bn.cons kr (fb.map (bK 0 hA.1 rfl)) (bn.cons kr (gp.map (bK 1 hA.1 rfl)) bn.nil)) (fe (fun q hq=>(hA.2 q.1 (List.mem_map.2 ⟨q,hq,rfl⟩)).1)) ?_
 intro a hS hO hM
 have hP:Pin [(901,b1),(902,b2)] (fun id=>(bif Nat.beq id 901 then b1 else (bif Nat.beq id 902 then b2 else 0))):=by intro q hq; simp at hq; rcases hq with rfl | rfl <;> rfl
 generalize (fun id=>(bif Nat.beq id 901 then b1 else (bif Nat.beq id 902 then b2 else 0)))=Z at hS hP
 clear fb gp
 replace h1:=h1.m0 hM
 refine rPe T hS [] [] fun a hS=>?_
 refine dw [901,902] mixed hS ?_
 intro nS oy hS hE hD hH
 replace hO:=hO.m2 hE
 replace h1:=h1.m1 hE
 refine tke T [0,1,4] [901,902] hS hH #[true,true,false,false,true,false,false] 4 [0,1,2] [(5,Sl a1 al c1),(6,I i_),(9,I ap)] fun a hS=>?_
 obtain ⟨hq,hm⟩:=hm
 refine db (e:=3) (k:=.i64) T 2 hS kr kr kr (by rfl) kr hH kr kr h1 kr kr hq.1 hq.2 ?_
 intro tv a h104 hS
 have uD:=h104.here
 refine dU T 3 hS kr kr kr (by rfl) kr hH kr h104 uD rfl kr ?_
 intro v105 a hv hS
 cases hv
 refine tke T [5,6] [901,902] hS hH (tts 7) 0 [5,6,9,7,8] [(4,B ((gi al i_) == ap))] fun a hS=>?_
 refine aU kr ?_
 replace hS:=hS.sle [] []
 refine aV ?_
 exact gy T hS hO (fun c h=>bT kr h) (fun c h=>bU (l:=[(i1,901),(i2,902)]) h) (bO [(i1,901),(i2,902)]) rfl (r:=[.bool ((gi al i_) == ap)]) kr (fun X' hM hC=>⟨((gi al i_) == ap),hm,rfl,((hS.cell (id:=901) (t:=43) (cs:=[Sl a1 al c1]) kr).out (f:=(bO [(i1,901),(i2,902)])) hC kr kr (hP.at 0 rfl)),((hS.cell (id:=902) (t:=3) (cs:=[I ap]) kr).out (f:=(bO [(i1,901),(i2,902)])) hC kr kr (hP.at 1 rfl))⟩)
theorem C72 (v:∀ (i_:Int) (al:List Int) (ap:Int),sB i_ al ap->VC72 i_ al ap (fun r=>r=dC i_ al ap)):S72:=by
 intro w X i_ al ap a1 c1  b1 i1 b2 i2 hp h1 fb gp hA
 refine (W72 w X i_ al ap a1 c1  b1 i1 b2 i2 _ (v i_ al ap hp) h1 fb gp hA).mono ?_
 rintro _ _ _ _ ⟨r,rfl,h⟩
 exact h
theorem W71_72 (Ks:S72) (w0) (X0) (l_:List ab) (al:List Int) (ap:Int) (a1) (c1) (a2) (c2) (b1) (i1) (b2) (i2) (Q:(List ab)->Prop) (hm:VC71_72 l_ al ap Q) (h1:RS aq w0 X0 a1 l_ c1) (h2:RS tI w0 X0 a2 al c2) (fb:Cell w0 X0 b1 i1 43 [.slice a2 al.length c2]) (gp:Cell w0 X0 b2 i2 3 [.int .i64 ap]) (hA:dP [i1,i2]) :
  Ret Tryz.prog 71 #[.slice a1 l_.length c1,.func (.func 72) #[] #[.pointer (some ⟨b1,0,none⟩),.pointer (some ⟨b2,0,none⟩)]] (pR [i1,i2]) w0 X0 (fun w X' v=>∃ r,Q r/\∃ co cn,v=.slice co r.length cn/\RS aq w X' co r cn/\Cell w X' b1 i1 43 [.slice a2 al.length c2]/\Cell w X' b2 i2 3 [.int .i64 ap]):=by
 unfold VC71_72 at hm
 replace hm:=hm (h1.sm kr)
 replace hm:=hm (h2.sm kr)
 refine fv Tryz.func71 rfl (dB [(i1,901),(i2,902)]) (fun id=>(bif Nat.beq id 901 then b1 else (bif Nat.beq id 902 then b2 else 0))) (args:=[Sl a1 l_ c1,.f (.func 72) [] [.p 901 0,.p 902 0]]) (bxs:=[(901,(43,[Sl a2 al c2])),(902,(3,[I ap]))]) kr rfl (bn.cons kr (fb.map (bK 0 hA.1 rfl)) (bn.cons kr (gp.map (bK 1 hA.1 rfl)) bn.nil)) (fe (fun q hq=>(hA.2 q.1 (List.mem_map.2 ⟨q,hq,rfl⟩)).1)) ?_
 intro a hS hO hM
 have hP:Pin [(901,b1),(902,b2)] (fun id=>(bif Nat.beq id 901 then b1 else (bif Nat.beq id 902 then b2 else 0))):=by intro q hq; simp at hq; rcases hq with rfl | rfl <;> rfl
 generalize (fun id=>(bif Nat.beq id 901 then b1 else (bif Nat.beq id 902 then b2 else 0)))=Z at hS hP
 clear fb gp
 replace h1:=h1.m0 hM
 replace h2:=h2.m0 hM
 refine rPe T hS [] [] fun a hS=>?_
 refine rPe T hS [] [(5,V (.slice none 0 0))] fun a hS=>?_
 refine b5 (fun a w=>∃ (Z:Nat->Nat) (X:Nat->Nat) (bv:List ab) (dm:Option Addr) (dl:Nat),VC71_72_J1 Q bv/\St Tryz.f71.ntmps ⟨[(5,Sl dm bv dl)],[(901,(43,[Sl a2 al c2])),(902,(3,[I ap]))]⟩ Z a w X/\fO (dB [(i1,901),(i2,902)]) w0 X0 w X/\Pin [(901,b1),(902,b2)] Z/\OS aq 102 w X 1005 dm bv dl/\RS tI w X a2 al c2) ?_ ?_
 ·refine rPe T hS [0] [(8,Sl a1 l_ c1),(9,I (lN l_)),(10,I 0)] fun a hS=>?_
  refine aK ?_
  obtain ⟨I1,μ1,ci,hm⟩:=hm
  refine cg (σ:=(List ab) × Int) (fun s a w=>∃ Z X cx cw,I1 s.1 s.2/\St Tryz.f71.ntmps ⟨[(1,.f (.func 72) [] [.p 901 0,.p 902 0]),(5,Sl cx s.1 cw),(8,Sl a1 l_ c1),(9,I (lN l_)),(10,I s.2)],[(901,(43,[Sl a2 al c2])),(902,(3,[I ap]))]⟩ Z a w X/\fO (dB [(i1,901),(i2,902)]) w0 X0 w X/\Pin [(901,b1),(902,b2)] Z/\OS aq 102 w X 1005 cx s.1 cw/\RS aq w X a1 l_ c1/\RS tI w X a2 al c2) (fun s=>μ1 s.1 s.2) (⟨[],0⟩) ?_ ?_
  ·exact ⟨Z,_,none,0,ci,hS.sl _,hO,hP,(OS.nil _ _ _ _ _),h1,h2⟩
  rintro ⟨dt,bd⟩ a Ac ⟨Z,q6,cx,cw,hI,hS,hO,hP,h111,h112,h114⟩
  replace hm:=hm dt bd hI
  clear hI ci
  refine rPe T hS [] [(11,B (decide (bd < (lN l_))))] fun a hS=>?_
  refine bc ?_
  refine aG hS (b:=decide (bd < (lN l_))) kr (fun hb=>?_) fun hb=>?_
  ·replace hm:=hm.1 hb
   refine aJ ?_
   refine b5 (fun a w=>∃ (Z:Nat->Nat) (X:Nat->Nat) (bo:List ab) (dN:Option Addr) (dM:Nat),VC71_72_J2 I1 μ1 dt bd bo/\St Tryz.f71.ntmps ⟨[(1,.f (.func 72) [] [.p 901 0,.p 902 0]),(5,Sl dN bo dM),(8,Sl a1 l_ c1),(9,I (lN l_)),(10,I bd)],[(901,(43,[Sl a2 al c2])),(902,(3,[I ap]))]⟩ Z a w X/\fO (dB [(i1,901),(i2,902)]) w0 X0 w X/\Pin [(901,b1),(902,b2)] Z/\OS aq 102 w X 1005 dN bo dM/\RS aq w X a1 l_ c1/\RS tI w X a2 al c2) ?_ ?_
   ·refine aK ?_
    refine bl ?_
    refine oPe T hS 1 [11] [(12,I bd)] fun a hS=>?_
    obtain ⟨hq,hm⟩:=hm
    refine op1 (index (e:=102) (k:=.i64) T hS kr kr kr kr h112 kr kr hq.1 hq.2 ?_)
    intro Gv a h122 hS
    refine op1 (eD T hS kr kr kr h122 kr kr ?_)
    intro v123 a hv hS
    subst hv
    refine eM T hS ⟨[(1,.f (.func 72) [] [.p 901 0,.p 902 0]),(5,Sl cx dt cw),(6,I bd),(7,Pt 8 0),(8,Sl a1 l_ c1),(9,I (lN l_)),(10,I bd)],[(8,(102,(cP (gi l_ bd)))),(901,(43,[Sl a2 al c2])),(902,(3,[I ap]))]⟩ fun Z a r7 vh hS hE hr=>?_
    replace hO:=hO.m2 hE
    replace h111:=h111.m2 hE
    replace h112:=h112.m1 hE
    replace h114:=h114.m1 hE
    replace hP:=hP.mv hr kr
    clear hE hr
    refine bl ?_
    refine oPe T hS 2 [6] [(15,.f (.func 72) [] [.p 901 0,.p 902 0]),(16,I bd)] fun a hS=>?_
    obtain ⟨hq,hm⟩:=hm
    refine op1 (jK (fi:=[]) (cp:=[.p 901 0,.p 902 0]) hS kr kr hb72 kr kr (Ks _ _ bd al ap a2 c2 (Z 901) 901 (Z 902) 902 hq h114 (hS.cell (id:=901) (t:=43) (cs:=[Sl a2 al c2]) kr) (hS.cell (id:=902) (t:=3) (cs:=[I ap]) kr) ⟨by decide,by decide⟩) ?_)
    intro v124 a yj wI hE hp hS
    replace hO:=hO.m2 hE
    replace h111:=h111.m2 hE
    replace h112:=h112.m1 hE
    replace h114:=h114.m1 hE
    obtain ⟨hp,Er,ut⟩:=hp
    obtain ⟨yF,hr⟩:∃ r,dC bd al ap=r:=⟨_,rfl⟩
    replace hm:=hm yF hr
    rw [hr] at hp
    clear hr
    subst hp
    replace hS:=hS.cB (id:=901) (t:=43) (cs:=[Sl a2 al c2]) kr Er
    replace hS:=hS.cB (id:=902) (t:=3) (cs:=[I ap]) kr ut
    clear Er ut
    refine gA ?_
    refine aG hS (b:=yF) kr (fun hb=>?_) fun hb=>?_
    ·replace hm:=hm.1 hb
     refine region ?_
     refine oP T hS 2 ⟨[(1,.f (.func 72) [] [.p 901 0,.p 902 0]),(5,Sl cx dt cw),(8,Sl a1 l_ c1),(9,I (lN l_)),(10,I bd),(18,Sl cx dt cw),(19,V (.agg #[.int .i64 ((gi l_ bd).aj),.int .i64 ((gi l_ bd).Kind),.int .i64 ((gi l_ bd).aF),.int .i64 ((gi l_ bd).End),.int .i64 ((gi l_ bd).Result)]))],[(901,(43,[Sl a2 al c2])),(902,(3,[I ap]))]⟩ fun a hS=>?_
     refine op1 (lit (E:=102) (col:=0) (T:=aq) (vals:=[.agg #[.int .i64 ((gi l_ bd).aj),.int .i64 ((gi l_ bd).Kind),.int .i64 ((gi l_ bd).aF),.int .i64 ((gi l_ bd).End),.int .i64 ((gi l_ bd).Result)]]) (ys:=[(gi l_ bd)]) T hS kr kr kr kr (by exact ⟨rfl,trivial⟩) rfl kr kr kr kr ?_)
     intro b130 a oW ow hE h133 hN hS
     clear hN
     replace hO:=hO.m2 hE
     replace h111:=h111.m2 hE
     replace h112:=h112.m1 hE
     replace h114:=h114.m1 hE
     replace h133:=h133.rs0
     obtain ⟨hq,hm⟩:=hm
     obtain ⟨news,hN⟩:=h133.src
     refine op1 (append (E:=102) (T:=aq) (col:=1005) (xs:=dt) T hS kr kr kr kr h111 hN kr kr kr kr hq ?_)
     intro IE Ip a tz tp hE h136 hS
     clear hq hN
     clear h111
     replace hO:=hO.m2 hE
     replace h112:=h112.m1 hE
     replace h114:=h114.m1 hE
     replace h133:=h133.m1 hE
     refine ePe T hS [19,20,21] [(5,Sl IE (dt++[(gi l_ bd)]) Ip)] fun a hS=>?_
     exact ⟨Z,_,dt++[(gi l_ bd)],IE,Ip,hm,hS.sl _,hO,hP,h136,h112,h114⟩
    replace hm:=hm.2 hb
    refine aJ ?_
    exact ⟨Z,_,dt,cx,cw,hm,hS.sl _,hO,hP,h111,h112,h114⟩
   rintro a py ⟨Z,wH,bo,dN,dM,hm,hS,hO,hP,h118,h119,h120⟩
   unfold VC71_72_J2 at hm
   refine region (ePe T hS [] [(10,I (wR (bd+1)))] fun a hS=>?_)
   exact ⟨⟨bo,wR (bd+1)⟩,⟨Z,_,dN,dM,hm.1,hS.sl _,hO,hP,h118,h119,h120⟩,hm.2⟩
  replace hm:=hm.2 hb
  refine cb (by rfl) ?_
  exact ⟨Z,_,dt,cx,cw,hm,hS.sl _,hO,hP,h111,h114⟩
 rintro a CA ⟨Z,wG,bv,dm,dl,hm,hS,hO,hP,h104,h105⟩
 unfold VC71_72_J1 at hm
 refine rPe T hS [5] [(4,Sl dm bv dl)] fun a hS=>?_
 refine aV ?_
 obtain ⟨lB,hE,hF⟩:=h104.freeze (by decide)
 replace hS:=hS.ev hE (cq kr)
 replace hO:=hO.m2 hE
 replace h105:=h105.m1 hE
 have h107:=hF; clear hE hF
 exact gy T hS hO (fun c h=>bT kr h) (fun c h=>bU (l:=[(i1,901),(i2,902)]) h) (bO [(i1,901),(i2,902)]) rfl (r:=[.slice dm bv.length dl]) kr (fun X' hM hC=>⟨bv,hm,dm,dl,rfl,h107.m0 hM,((hS.cell (id:=901) (t:=43) (cs:=[Sl a2 al c2]) kr).out (f:=(bO [(i1,901),(i2,902)])) hC kr kr (hP.at 0 rfl)),((hS.cell (id:=902) (t:=3) (cs:=[I ap]) kr).out (f:=(bO [(i1,901),(i2,902)])) hC kr kr (hP.at 1 rfl))⟩)
theorem C71_72 (Ks:S72) (v:∀ (l_:List ab) (al:List Int) (ap:Int),w9 l_ al ap->VC71_72 l_ al ap (fun r=>r=bC l_ al ap)):S71_72:=by
 intro w X l_ al ap a1 c1 a2 c2  b1 i1 b2 i2 hp h1 h2 fb gp hA
 refine (W71_72 Ks w X l_ al ap a1 c1 a2 c2  b1 i1 b2 i2 _ (v l_ al ap hp) h1 h2 fb gp hA).mono ?_
 rintro _ _ _ _ ⟨r,rfl,h⟩
 exact h
theorem W42 (Ku:S69) (Kt:S70) (wc:S71_72) (w0) (X0) (h_:ak) (l_:List ab) (of:List Int) (a1) (c1) (a2) (c2) (a3) (c3) (a4) (c4) (Q:(List (List aa)) × Int->Prop) (hm:VC42 h_ l_ of Q) (h1:RS ay w0 X0 a1 h_.ae c1) (h2:RS aM w0 X0 a2 h_.ao c2) (h3:RS aq w0 X0 a3 l_ c3) (h4:RS tI w0 X0 a4 of c4) :
  Ret Tryz.prog 42 #[.agg #[.slice a1 h_.ae.length c1,.slice a2 h_.ao.length c2],.slice a3 l_.length c3,.slice a4 of.length c4] aI w0 X0 (fun w X' v=>∃ r,Q r/\∃ co cn,v=.tuple #[.slice co r.1.length cn,.int .i64 r.2]/\RS (b7 au) w X' co r.1 cn):=by
 unfold VC42 at hm
 replace hm:=hm (h1.sm kr)
 replace hm:=hm (h2.sm kr)
 replace hm:=hm (h3.sm kr)
 replace hm:=hm (h4.sm kr)
 refine enter Tryz.func42 rfl (vals:=[.agg #[.slice a1 h_.ae.length c1,.slice a2 h_.ao.length c2],.slice a3 l_.length c3,.slice a4 of.length c4]) kr ?_
 intro Z a hS hO hM
 replace h1:=h1.m0 hM
 replace h2:=h2.m0 hM
 replace h3:=h3.m0 hM
 replace h4:=h4.m0 hM
 refine rM T hS ⟨[(1,Sl a3 l_ c3),(3,Pt 4 0),(5,Pt 6 0)],[(4,(25,[Sl a1 h_.ae c1,Sl a2 h_.ao c2])),(6,(43,[Sl a4 of c4]))]⟩ fun Z a N2 Qn hS hE hr=>?_
 replace hO:=hO.m2 hE
 replace h1:=h1.m1 hE
 replace h2:=h2.m1 hE
 replace h3:=h3.m1 hE
 replace h4:=h4.m1 hE
 clear hE hr
 refine rP T hS ⟨[(1,Sl a3 l_ c3),(3,Pt 4 0),(5,Pt 6 0),(8,V (.slice none 0 0))],[(4,(25,[Sl a1 h_.ae c1,Sl a2 h_.ao c2])),(6,(43,[Sl a4 of c4]))]⟩ fun a hS=>?_
 refine b5 (fun a w=>∃ (Z:Nat->Nat) (X:Nat->Nat) (bv:List (List aa)) (dm:Option Addr) (dl:Nat),VC42_J1 Q bv/\St Tryz.f42.ntmps ⟨[(8,Sl dm bv dl)],[]⟩ Z a w X/\Old w0 X0 w X/\OS (b7 au) 26 w X 1007 dm bv dl) ?_ ?_
 ·refine rP T hS ⟨[(1,Sl a3 l_ c3),(5,Pt 6 0),(8,V (.slice none 0 0)),(17,Sl a1 h_.ae c1),(18,I (lN h_.ae)),(19,I 0)],[(6,(43,[Sl a4 of c4]))]⟩ fun a hS=>?_
  refine aK ?_
  obtain ⟨I1,μ1,ci,hm⟩:=hm
  refine cg (σ:=(List (List aa)) × Int) (fun s a w=>∃ Z X cx cw,I1 s.1 s.2/\St Tryz.f42.ntmps ⟨[(1,Sl a3 l_ c3),(5,Pt 6 0),(8,Sl cx s.1 cw),(17,Sl a1 h_.ae c1),(18,I (lN h_.ae)),(19,I s.2)],[(6,(43,[Sl a4 of c4]))]⟩ Z a w X/\Old w0 X0 w X/\RS aq w X a3 l_ c3/\OS (b7 au) 26 w X 1007 cx s.1 cw/\RS ay w X a1 h_.ae c1/\RS tI w X a4 of c4) (fun s=>μ1 s.1 s.2) (⟨[],0⟩) ?_ ?_
  ·exact ⟨Z,_,none,0,ci,hS.sl _,hO,h3,(OS.nil _ _ _ _ _),h1,h4⟩
  rintro ⟨dt,bd⟩ a GO ⟨Z,Gf,cx,cw,hI,hS,hO,h107,h111,h112,h114⟩
  replace hm:=hm dt bd hI
  clear hI ci
  refine rP T hS ⟨[(1,Sl a3 l_ c3),(5,Pt 6 0),(8,Sl cx dt cw),(17,Sl a1 h_.ae c1),(18,I (lN h_.ae)),(19,I bd),(20,B (decide (bd < (lN h_.ae))))],[(6,(43,[Sl a4 of c4]))]⟩ fun a hS=>?_
  refine bc ?_
  refine aG hS (b:=decide (bd < (lN h_.ae))) kr (fun hb=>?_) fun hb=>?_
  ·replace hm:=hm.1 hb
   refine aJ (bc ?_)
   refine aK ?_
   refine bl ?_
   refine oP T hS 1 ⟨[(1,Sl a3 l_ c3),(5,Pt 6 0),(8,Sl cx dt cw),(17,Sl a1 h_.ae c1),(18,I (lN h_.ae)),(19,I bd),(21,I bd)],[(6,(43,[Sl a4 of c4]))]⟩ fun a hS=>?_
   obtain ⟨hq,hm⟩:=hm
   refine op1 (index (e:=48) (k:=.i64) T hS kr kr kr kr h112 kr kr hq.1 hq.2 ?_)
   intro MK a h116 hS
   refine op1 (eD T hS kr kr kr h116 kr kr ?_)
   intro v117 a hv hS
   obtain ⟨gP,gM,hv,h120⟩:=hv
   subst hv
   replace hm:=hm (h120.sm kr)
   refine eM T hS ⟨[(1,Sl a3 l_ c3),(5,Pt 6 0),(8,Sl cx dt cw),(9,Pt 10 0),(10,Pt 11 0),(17,Sl a1 h_.ae c1),(18,I (lN h_.ae)),(19,I bd)],[(6,(43,[Sl a4 of c4])),(10,(3,[I bd])),(11,(48,(cO (gi h_.ae bd) gP gM)))]⟩ fun Z a JG Mg hS hE hr=>?_
   replace hO:=hO.m2 hE
   replace h107:=h107.m1 hE
   replace h111:=h111.m2 hE
   replace h112:=h112.m1 hE
   replace h114:=h114.m1 hE
   replace h120:=h120.m1 hE
   clear hE hr
   refine bl ?_
   refine oP T hS 2 ⟨[(1,Sl a3 l_ c3),(5,Pt 6 0),(8,Sl cx dt cw),(9,Pt 10 0),(10,Pt 11 0),(17,Sl a1 h_.ae c1),(18,I (lN h_.ae)),(19,I bd),(24,Sl a4 of c4),(25,I bd)],[(6,(43,[Sl a4 of c4])),(10,(3,[I bd])),(11,(48,(cO (gi h_.ae bd) gP gM)))]⟩ fun a hS=>?_
   obtain ⟨hq,hm⟩:=hm
   refine op1 (call hS kr kr hb69 kr (fun _ _=>rfl) (Ku _ _ of bd a4 c4 hq h114) ?_)
   intro v121 a tC tq hE hp hS
   replace hO:=hO.m2 hE
   replace h107:=h107.m1 hE
   replace h111:=h111.m2 hE
   replace h112:=h112.m1 hE
   replace h114:=h114.m1 hE
   replace h120:=h120.m1 hE
   obtain ⟨ip,ii,hp,h127⟩:=hp
   obtain ⟨dA,hr⟩:∃ r,aP of bd=r:=⟨_,rfl⟩
   replace hm:=hm dA hr
   rw [hr] at hp h127
   clear hr
   subst hp
   replace hm:=hm (h127.sm kr)
   refine eP T hS ⟨[(1,Sl a3 l_ c3),(5,Pt 6 0),(8,Sl cx dt cw),(9,Pt 10 0),(10,Pt 11 0),(11,Sl ip dA ii),(17,Sl a1 h_.ae c1),(18,I (lN h_.ae)),(19,I bd)],[(6,(43,[Sl a4 of c4])),(10,(3,[I bd])),(11,(48,(cO (gi h_.ae bd) gP gM)))]⟩ fun a hS=>?_
   refine dw [6,10,11] mixed hS ?_
   intro qS q7 hS hE hD hH
   replace hO:=hO.m2 hE
   replace h107:=h107.m1 hE
   replace h111:=h111.m2 hE
   replace h112:=h112.m1 hE
   replace h114:=h114.m1 hE
   replace h120:=h120.m1 hE
   replace h127:=h127.m1 hE
   refine tk T [0,1,2] [6,10,11] hS hH #[true,true,true,false,false,false,false,false,false,false] 7 ⟨[(1,Sl a3 l_ c3),(5,Pt 6 0),(8,Sl cx dt cw),(11,Sl ip dA ii),(17,Sl a1 h_.ae c1),(18,I (lN h_.ae)),(19,I bd),(28,V (.agg #[.int .i64 ((gi h_.ae bd).ar),.int .i64 ((gi h_.ae bd).aw),.int .i64 ((gi h_.ae bd).aE),.slice gP ((gi h_.ae bd).Rows).length gM])),(29,Sl a3 l_ c3),(30,.f (.func 72) [] [.p 6 0,.p 10 0])],[(6,(43,[Sl a4 of c4])),(10,(3,[I bd])),(11,(48,(cO (gi h_.ae bd) gP gM)))]⟩ fun a hS=>?_
   obtain ⟨hq,hm⟩:=hm
   refine only 3 kr (by rfl) (lx hS kr kr hb71 kr (wc _ _ l_ of bd a3 c3 a4 c4 (Z 6) 6 (Z 10) 10 hq h107 h114 (hS.cell (id:=6) (t:=43) (cs:=[Sl a4 of c4]) kr) (hS.cell (id:=10) (t:=3) (cs:=[I bd]) kr) ⟨by decide,by decide⟩) ?_)
   intro v130 a oW ow hE hp hS
   replace hO:=hO.m2 hE
   replace hD:=hD.ev hE rfl
   replace h107:=h107.m1 hE
   replace h111:=h111.m2 hE
   replace h112:=h112.m1 hE
   replace h114:=h114.m1 hE
   replace h120:=h120.m1 hE
   replace h127:=h127.m1 hE
   obtain ⟨ou,ol,hp,h136,us,Ek⟩:=hp
   obtain ⟨fP,hr⟩:∃ r,bC l_ of bd=r:=⟨_,rfl⟩
   replace hm:=hm fP hr
   rw [hr] at hp h136
   clear hr
   subst hp
   replace hm:=hm (h136.sm kr)
   replace hS:=hS.cB (id:=6) (t:=43) (cs:=[Sl a4 of c4]) kr us
   replace hS:=hS.cB (id:=10) (t:=3) (cs:=[I bd]) kr Ek
   clear us Ek
   replace hS:=hS.sl ⟨[(1,Sl a3 l_ c3),(5,Pt 6 0),(8,Sl cx dt cw),(11,Sl ip dA ii),(17,Sl a1 h_.ae c1),(18,I (lN h_.ae)),(19,I bd),(28,V (.agg #[.int .i64 ((gi h_.ae bd).ar),.int .i64 ((gi h_.ae bd).aw),.int .i64 ((gi h_.ae bd).aE),.slice gP ((gi h_.ae bd).Rows).length gM])),(29,Sl a3 l_ c3),(30,.f (.func 72) [] [.p 6 0,.p 10 0]),(31,Sl ou fP ol)],[(6,(43,[Sl a4 of c4])),(10,(3,[I bd])),(11,(48,(cO (gi h_.ae bd) gP gM)))]⟩
   refine c8 (bJ.of hS (bks:=[6,10,11]) kr hD) ?_
   intro hH
   obtain ⟨hq,hm⟩:=hm
   refine only 4 kr (by rfl) (call hS kr kr hb70 kr (fun _ _=>rfl) (Kt _ _ (gi h_.ae bd) fP gP gM ou ol 1013 hq h120 h136) ?_)
   intro v139 a yh wH hE hp hS
   replace hO:=hO.m2 hE
   replace hD:=hD.ev hE rfl
   replace h107:=h107.m1 hE
   replace h111:=h111.m2 hE
   replace h112:=h112.m1 hE
   replace h114:=h114.m1 hE
   replace h120:=h120.m1 hE
   replace h127:=h127.m1 hE
   replace h136:=h136.m1 hE
   obtain ⟨j7,jZ,hp,h145⟩:=hp
   obtain ⟨b6,hr⟩:∃ r,bj (gi h_.ae bd) fP=r:=⟨_,rfl⟩
   replace hm:=hm b6 hr
   rw [hr] at hp h145
   clear hr
   subst hp
   replace hm:=hm (h145.sm kr)
   replace hS:=hS.sl ⟨[(1,Sl a3 l_ c3),(5,Pt 6 0),(8,Sl cx dt cw),(11,Sl ip dA ii),(17,Sl a1 h_.ae c1),(18,I (lN h_.ae)),(19,I bd),(28,V (.agg #[.int .i64 ((gi h_.ae bd).ar),.int .i64 ((gi h_.ae bd).aw),.int .i64 ((gi h_.ae bd).aE),.slice gP ((gi h_.ae bd).Rows).length gM])),(29,Sl a3 l_ c3),(30,.f (.func 72) [] [.p 6 0,.p 10 0]),(31,Sl ou fP ol),(32,V (.tuple #[.slice j7 b6.1.length jZ,.int .i64 b6.2]))],[(6,(43,[Sl a4 of c4])),(10,(3,[I bd])),(11,(48,(cO (gi h_.ae bd) gP gM)))]⟩
   refine c8 (bJ.of hS (bks:=[6,10,11]) kr hD) ?_
   intro hH
   refine tk T [5,6,7,8,9] [6,10,11] hS hH #[true,true,true,true,true,true,true,true,true,true] 0 ⟨[(1,Sl a3 l_ c3),(5,Pt 6 0),(8,Sl cx dt cw),(11,Sl ip dA ii),(12,Sl j7 b6.1 jZ),(13,I b6.2),(17,Sl a1 h_.ae c1),(18,I (lN h_.ae)),(19,I bd)],[(6,(43,[Sl a4 of c4])),(10,(3,[I bd])),(11,(48,(cO (gi h_.ae bd) gP gM)))]⟩ fun a hS=>?_
   refine aU kr ?_
   replace hS:=hS.sl ⟨[(1,Sl a3 l_ c3),(5,Pt 6 0),(8,Sl cx dt cw),(11,Sl ip dA ii),(12,Sl j7 b6.1 jZ),(13,I b6.2),(17,Sl a1 h_.ae c1),(18,I (lN h_.ae)),(19,I bd)],[(6,(43,[Sl a4 of c4]))]⟩
   refine bc (rP T hS ⟨[(1,Sl a3 l_ c3),(5,Pt 6 0),(8,Sl cx dt cw),(11,Sl ip dA ii),(12,Sl j7 b6.1 jZ),(13,I b6.2),(17,Sl a1 h_.ae c1),(18,I (lN h_.ae)),(19,I bd),(36,B (b6.2 != 0))],[(6,(43,[Sl a4 of c4]))]⟩ fun a hS=>?_)
   refine aG hS (b:=(b6.2 != 0)) kr (fun hb=>?_) fun hb=>?_
   ·replace hm:=hm.1 hb
    refine rP T hS ⟨[(6,V (.slice none 0 0)),(7,I b6.2)],[]⟩ fun a hS=>?_
    refine aV ?_
    exact fin T hS hO (fun c=>c) rfl (r:=[.slice none 0 0,.int .i64 b6.2]) kr (fun X' hM hC=>⟨([],b6.2),hm,none,0,rfl,RS.empty _ _ _⟩)
   replace hm:=hm.2 hb
   refine aJ ?_
   refine b5 (fun a w=>∃ (Z:Nat->Nat) (X:Nat->Nat) (dT:List (List aa)) (f8:List aa) (B1:Option Addr) (BK:Nat) (zG:Option Addr) (zu:Nat),VC42_J2 I1 μ1 dt bd dT f8/\St Tryz.f42.ntmps ⟨[(1,Sl a3 l_ c3),(5,Pt 6 0),(8,Sl B1 dT BK),(12,Sl zG f8 zu),(17,Sl a1 h_.ae c1),(18,I (lN h_.ae)),(19,I bd)],[(6,(43,[Sl a4 of c4]))]⟩ Z a w X/\Old w0 X0 w X/\RS aq w X a3 l_ c3/\OS (b7 au) 26 w X 1007 B1 dT BK/\OS au 56 w X 1013 zG f8 zu/\RS ay w X a1 h_.ae c1/\RS tI w X a4 of c4) ?_ ?_
   ·refine rP T hS ⟨[(1,Sl a3 l_ c3),(5,Pt 6 0),(8,Sl cx dt cw),(11,Sl ip dA ii),(12,Sl j7 b6.1 jZ),(17,Sl a1 h_.ae c1),(18,I (lN h_.ae)),(19,I bd),(38,Sl j7 b6.1 jZ),(39,I (lN b6.1)),(40,I 0)],[(6,(43,[Sl a4 of c4]))]⟩ fun a hS=>?_
    refine aK ?_
    obtain ⟨I2,μ2,ci,hm⟩:=hm
    refine cg (σ:=(List (List aa)) × (List aa) × Int) (fun s a w=>∃ Z X pb o8 iV iU,I2 s.1 s.2.1 s.2.2/\St Tryz.f42.ntmps ⟨[(1,Sl a3 l_ c3),(5,Pt 6 0),(8,Sl pb s.1 o8),(11,Sl ip dA ii),(12,Sl iV s.2.1 iU),(17,Sl a1 h_.ae c1),(18,I (lN h_.ae)),(19,I bd),(38,Sl iV s.2.1 iU),(39,I (lN b6.1)),(40,I s.2.2)],[(6,(43,[Sl a4 of c4]))]⟩ Z a w X/\Old w0 X0 w X/\RS aq w X a3 l_ c3/\OS (b7 au) 26 w X 1007 pb s.1 o8/\RS tI w X ip dA ii/\OS au 56 w X 1013 iV s.2.1 iU/\RS ay w X a1 h_.ae c1/\RS tI w X a4 of c4) (fun s=>μ2 s.1 s.2.1 s.2.2) (⟨dt,b6.1,0⟩) ?_ ?_
    ·exact ⟨Z,_,cx,cw,j7,jZ,ci,hS.sl _,hO,h107,h111,h127,h145,h112,h114⟩
    rintro ⟨l7,gt,fD⟩ a N4 ⟨Z,Mj,pb,o8,iV,iU,hI,hS,hO,h168,h172,h173,h177,h178,h180⟩
    replace hm:=hm l7 gt fD hI
    clear hI ci
    refine rP T hS ⟨[(1,Sl a3 l_ c3),(5,Pt 6 0),(8,Sl pb l7 o8),(11,Sl ip dA ii),(12,Sl iV gt iU),(17,Sl a1 h_.ae c1),(18,I (lN h_.ae)),(19,I bd),(38,Sl iV gt iU),(39,I (lN b6.1)),(40,I fD),(41,B (decide (fD < (lN b6.1))))],[(6,(43,[Sl a4 of c4]))]⟩ fun a hS=>?_
    refine bc ?_
    refine aG hS (b:=decide (fD < (lN b6.1))) kr (fun hb=>?_) fun hb=>?_
    ·replace hm:=hm.1 hb
     refine aJ (bc ?_)
     refine aK ?_
     refine bl ?_
     refine oP T hS 1 ⟨[(1,Sl a3 l_ c3),(5,Pt 6 0),(8,Sl pb l7 o8),(11,Sl ip dA ii),(12,Sl iV gt iU),(17,Sl a1 h_.ae c1),(18,I (lN h_.ae)),(19,I bd),(38,Sl iV gt iU),(39,I (lN b6.1)),(40,I fD),(42,I fD)],[(6,(43,[Sl a4 of c4]))]⟩ fun a hS=>?_
     obtain ⟨D5,hm⟩:=hm
     refine op1 (k5 (E:=56) (k:=.i64) T hS kr kr kr kr h177 kr kr D5.1 D5.2 ?_)
     intro Mz a h183 h182 hS
     refine op1 (AU T hS kr kr kr h182 kr kr ?_)
     intro v185 a hv hS
     subst hv
     refine eM T hS ⟨[(1,Sl a3 l_ c3),(5,Pt 6 0),(8,Sl pb l7 o8),(11,Sl ip dA ii),(12,Sl iV gt iU),(14,I fD),(15,Pt 16 0),(17,Sl a1 h_.ae c1),(18,I (lN h_.ae)),(19,I bd),(38,Sl iV gt iU),(39,I (lN b6.1)),(40,I fD)],[(6,(43,[Sl a4 of c4])),(16,(56,(cK (gi gt fD))))]⟩ fun Z a GS IJ hS hE hr=>?_
     replace hO:=hO.m2 hE
     replace h168:=h168.m1 hE
     replace h172:=h172.m2 hE
     replace h173:=h173.m1 hE
     replace h177:=h177.m2 hE
     replace h178:=h178.m1 hE
     replace h180:=h180.m1 hE
     clear hE hr
     refine region ?_
     refine oP T hS 5 ⟨[(1,Sl a3 l_ c3),(5,Pt 6 0),(8,Sl pb l7 o8),(11,Sl ip dA ii),(12,Sl iV gt iU),(17,Sl a1 h_.ae c1),(18,I (lN h_.ae)),(19,I bd),(38,Sl iV gt iU),(39,I (lN b6.1)),(40,I fD),(45,Sl iV gt iU),(46,I fD),(47,Sl ip dA ii),(49,I ((gi gt fD).Oper))],[(6,(43,[Sl a4 of c4]))]⟩ fun a hS=>?_
     obtain ⟨hq,hm⟩:=hm
     refine op1 (index (e:=3) (k:=.i64) T hS kr kr kr kr h173 kr kr hq.1 hq.2 ?_)
     intro QT a h187 hS
     refine op1 (dL T hS kr kr kr h187 rfl kr ?_)
     intro v188 a hv hS
     cases hv
     obtain ⟨xG,hm⟩:=hm
     refine op1 (k5 (E:=56) (k:=.i64) T hS kr kr kr kr h177 kr kr xG.1 xG.2 ?_)
     intro QQ a h191 h190 hS
     have h192:=h191.ad
     clear h191 h190
     refine op1 (ta (off:=0) (fsz:=1) (ft:=3) T hS kr kr kr h192 kr kr ?_)
     intro QM a h195 hS
     refine op1 (sf (m:=1) (off:=0) (x:=(⟨gi dA ((gi gt fD).Oper),(gi gt fD).Result⟩:aa)) (v:=I (gi dA ((gi gt fD).Oper))) (i:=fD.toNat) (E:=56) (xs:=gt) T hS kr kr kr kr h177 h195 (by have:=xG.1; have:=xG.2; (try simp only [List.length_set]); omega) kr kr rfl (fun _ _ _ h=>by cases h; rfl) ?_)
     intro a GT hE h197 hS
     clear h177
     replace hO:=hO.m2 hE
     replace h168:=h168.m1 hE
     replace h172:=h172.m2 hE
     replace h173:=h173.m1 hE
     replace h178:=h178.m1 hE
     replace h180:=h180.m1 hE
     replace h187:=h187.m1 hE
     replace hS:=hS.conv (t:=12) (y:=.slice iV (gt.set fD.toNat (⟨gi dA ((gi gt fD).Oper),(gi gt fD).Result⟩:aa)).length iU) kr (by rw [List.length_set])
     replace hS:=hS.conv (t:=38) (y:=.slice iV (gt.set fD.toNat (⟨gi dA ((gi gt fD).Oper),(gi gt fD).Result⟩:aa)).length iU) kr (by rw [List.length_set])
     replace hS:=hS.conv (t:=45) (y:=.slice iV (gt.set fD.toNat (⟨gi dA ((gi gt fD).Oper),(gi gt fD).Result⟩:aa)).length iU) kr (by rw [List.length_set])
     refine gA ?_
     refine region (eP T hS ⟨[(1,Sl a3 l_ c3),(5,Pt 6 0),(8,Sl pb l7 o8),(11,Sl ip dA ii),(12,Sl iV (gt.set fD.toNat (⟨gi dA ((gi gt fD).Oper),(gi gt fD).Result⟩:aa)) iU),(17,Sl a1 h_.ae c1),(18,I (lN h_.ae)),(19,I bd),(38,Sl iV (gt.set fD.toNat (⟨gi dA ((gi gt fD).Oper),(gi gt fD).Result⟩:aa)) iU),(39,I (lN b6.1)),(40,I (wR (fD+1)))],[(6,(43,[Sl a4 of c4]))]⟩ fun a hS=>?_)
     exact ⟨⟨l7,(gt.set fD.toNat (⟨gi dA ((gi gt fD).Oper),(gi gt fD).Result⟩:aa)),wR (fD+1)⟩,⟨Z,_,pb,o8,iV,iU,hm.1,hS.sl _,hO,h168,h172,h173,h197,h178,h180⟩,hm.2⟩
    replace hm:=hm.2 hb
    refine cb (by rfl) ?_
    exact ⟨Z,_,l7,gt,pb,o8,iV,iU,hm,hS.sl _,hO,h168,h172,h177,h178,h180⟩
   rintro a GQ ⟨Z,Mh,dT,f8,B1,BK,zG,zu,hm,hS,hO,h146,h150,h154,h155,h156⟩
   unfold VC42_J2 at hm
   refine region ?_
   refine oP T hS 2 ⟨[(1,Sl a3 l_ c3),(5,Pt 6 0),(8,Sl B1 dT BK),(17,Sl a1 h_.ae c1),(18,I (lN h_.ae)),(19,I bd),(55,Sl B1 dT BK),(56,Sl zG f8 zu)],[(6,(43,[Sl a4 of c4]))]⟩ fun a hS=>?_
   obtain ⟨DK,hE,hF⟩:=h154.freeze (by decide)
   replace hS:=hS.ev hE (cq kr)
   replace hO:=hO.m2 hE
   replace h146:=h146.m1 hE
   replace h150:=h150.m2 hE
   replace h155:=h155.m1 hE
   replace h156:=h156.m1 hE
   have h158:=hF; clear hE hF
   refine op1 (lit (E:=26) (col:=0) (T:=(b7 au)) (vals:=[.slice zG f8.length zu]) (ys:=[f8]) T hS kr kr kr kr (by exact ⟨⟨zG,zu,rfl,h158⟩,trivial⟩) rfl kr kr kr kr ?_)
   intro b159 a z8 B3 hE h162 hN hS
   clear hN
   replace hO:=hO.m2 hE
   replace h146:=h146.m1 hE
   replace h150:=h150.m2 hE
   replace h155:=h155.m1 hE
   replace h156:=h156.m1 hE
   replace h158:=h158.m1 hE
   replace h162:=h162.rs0
   obtain ⟨hq,hm⟩:=hm
   obtain ⟨news,hN⟩:=h162.src
   refine op1 (append (E:=26) (T:=(b7 au)) (col:=1007) (xs:=dT) T hS kr kr kr kr h150 hN kr kr kr kr hq ?_)
   intro Gc F7 a GZ Gj hE h165 hS
   clear hq hN
   clear h150
   replace hO:=hO.m2 hE
   replace h146:=h146.m1 hE
   replace h155:=h155.m1 hE
   replace h156:=h156.m1 hE
   replace h158:=h158.m1 hE
   replace h162:=h162.m1 hE
   refine eP T hS ⟨[(1,Sl a3 l_ c3),(5,Pt 6 0),(8,Sl Gc (dT++[f8]) F7),(17,Sl a1 h_.ae c1),(18,I (lN h_.ae)),(19,I bd)],[(6,(43,[Sl a4 of c4]))]⟩ fun a hS=>?_
   refine region (eP T hS ⟨[(1,Sl a3 l_ c3),(5,Pt 6 0),(8,Sl Gc (dT++[f8]) F7),(17,Sl a1 h_.ae c1),(18,I (lN h_.ae)),(19,I (wR (bd+1)))],[(6,(43,[Sl a4 of c4]))]⟩ fun a hS=>?_)
   exact ⟨⟨dT++[f8],wR (bd+1)⟩,⟨Z,_,Gc,F7,hm.1,hS.sl _,hO,h146,h165,h155,h156⟩,hm.2⟩
  replace hm:=hm.2 hb
  refine cb (by rfl) ?_
  exact ⟨Z,_,dt,cx,cw,hm,hS.sl _,hO,h111⟩
 rintro a GN ⟨Z,Me,bv,dm,dl,hm,hS,hO,h104⟩
 unfold VC42_J1 at hm
 refine rP T hS ⟨[(6,Sl dm bv dl),(7,I 0)],[]⟩ fun a hS=>?_
 refine aV ?_
 obtain ⟨ox,hE,hF⟩:=h104.freeze (by decide)
 replace hS:=hS.ev hE (cq kr)
 replace hO:=hO.m2 hE
 have h106:=hF; clear hE hF
 exact fin T hS hO (fun c=>c) rfl (r:=[.slice dm bv.length dl,.int .i64 0]) kr (fun X' hM hC=>⟨(bv,0),hm,dm,dl,rfl,h106.m0 hM⟩)
theorem C42 (Ku:S69) (Kt:S70) (wc:S71_72) (v:∀ (h_:ak) (l_:List ab) (of:List Int),w6 h_ l_ of->VC42 h_ l_ of (fun r=>r=cz h_ l_ of)):S42:=by
 intro w X h_ l_ of a1 c1 a2 c2 a3 c3 a4 c4   hp h1 h2 h3 h4
 refine (W42 Ku Kt wc w X h_ l_ of a1 c1 a2 c2 a3 c3 a4 c4   _ (v h_ l_ of hp) h1 h2 h3 h4).mono ?_
 rintro _ _ _ _ ⟨r,rfl,h⟩
 exact h
theorem W91 (w0) (X0) (n_:Int) (cD) (Q:(List aa)->Prop) (hm:VC91 n_ Q) :
  Ret Tryz.prog 91 #[.slice none 0 0,.int .i64 n_] aI w0 X0 (fun w X' v=>∃ r,Q r/\∃ co cn,v=.slice co r.length cn/\OS au 56 w X' cD co r cn):=by
 unfold VC91 at hm
 refine enter Tryz.func91 rfl (vals:=[.slice none 0 0,.int .i64 n_]) kr ?_
 intro Z a hS hO hM
 refine rPe T hS [] [] fun a hS=>?_
 refine bc ?_
 refine rPe T hS [] [(6,B (decide (n_ < 0)))] fun a hS=>?_
 refine aG hS (b:=decide (n_ < 0)) kr (fun hb=>?_) fun hb=>?_
 ·replace hm:=hm.1 hb
  exact hm.elim
 replace hm:=hm.2 hb
 refine aJ ?_
 refine b5 (fun a w=>∃ (Z:Nat->Nat) (X:Nat->Nat) (bv:List aa) (dm:Option Addr) (dl:Nat),VC91_J1 Q bv/\St Tryz.f91.ntmps ⟨[(0,Sl dm bv dl)],[]⟩ Z a w X/\Old w0 X0 w X/\OS au 56 w X 1001 dm bv dl) ?_ ?_
 ·refine bl ?_
  refine oPe T hS 2 [6] [(8,I n_),(9,V (.slice none 0 0))] fun a hS=>?_
  refine op1 (Ib (E:=56) T hS kr kr kr kr ?_)
  intro a hS
  refine ePe T hS [8,9,10] [(1,I (wR (n_ - (wR (0 - 0)))))] fun a hS=>?_
  refine rPe T hS [] [(16,B (decide ((wR (n_ - (wR (0 - 0)))) > 0)))] fun a hS=>?_
  refine aG hS (b:=decide ((wR (n_ - (wR (0 - 0)))) > 0)) kr (fun hb=>?_) fun hb=>?_
  ·replace hm:=hm.1 hb
   refine region ?_
   refine oPe T hS 2 [16] [(17,V (.slice none 0 0)),(18,V (.slice none 0 0))] fun a hS=>?_
   refine op1 (Ib (E:=56) T hS kr kr kr kr ?_)
   intro a hS
   obtain ⟨hq,hm⟩:=hm
   refine op1 (Ao (k:=.i64) (E:=56) (col:=1001) (T:=au) (xs:=([]:List aa)) (ad:=none) (c:=0) T hS kr kr kr kr (OS.nil _ _ _ _ _) kr kr hq.1 hq.2 ?_)
   intro a h105 hS
   clear h105
   replace hS:=hS.conv (t:=20) (y:=.slice none 0 0) kr (by rfl)
   refine oPe T hS 1 [1,17,18,19] [(21,I (wR (n_ - (wR (0 - 0)))))] fun a hS=>?_
   obtain ⟨hq,hm⟩:=hm
   refine op1 (Dz (kn:=.i64) (E:=56) (T:=au) (col:=1001) (m:=wR (n_ - (wR (0 - 0)))) T (⟨0,0⟩:aa) hS kr kr kr kr kr kr kr kr kr hq.1 hq.2 (fun _ _=>rfl) ?_)
   intro cx cw a mD mj hE h108 hS
   replace hO:=hO.m2 hE
   refine oPe T hS 2 [20,21] [(24,I 0)] fun a hS=>?_
   obtain ⟨hq,hm⟩:=hm
   refine op1 (Ao (k:=.i64) (E:=56) (col:=1001) (T:=au) (xs:=List.replicate (wR (n_ - (wR (0 - 0)))).toNat (⟨0,0⟩:aa)) (ad:=cx) (c:=cw) T hS kr kr kr kr h108 kr kr hq.1 hq.2 ?_)
   intro a h111 hS
   clear h108
   refine ePe T hS [24,25] [(0,Sl cx ((List.replicate (wR (n_ - (wR (0 - 0)))).toNat (⟨0,0⟩:aa)).take (0:Int).toNat) cw)] fun a hS=>?_
   exact ⟨Z,_,(List.replicate (wR (n_ - (wR (0 - 0)))).toNat (⟨0,0⟩:aa)).take (0:Int).toNat,cx,cw,hm,hS.sl _,hO,h111⟩
  replace hm:=hm.2 hb
  refine aJ ?_
  exact ⟨Z,_,[],none,0,hm,hS.sl _,hO,(OS.nil _ _ _ _ _)⟩
 rintro a tE ⟨Z,tt,bv,dm,dl,hm,hS,hO,h104⟩
 unfold VC91_J1 at hm
 refine rPe T hS [0] [(4,Sl dm bv dl)] fun a hS=>?_
 refine aV ?_
 exact fin T hS hO (zAf0 cD) rfl (r:=[.slice dm bv.length dl]) kr (fun X' hM hC=>⟨bv,hm,dm,dl,rfl,(OS.out (f:=(zAf0 cD)) h104 hM hC kr)⟩)
theorem C91 (v:∀ (n_:Int),xi n_->VC91 n_ (fun r=>r=cj n_)):S91:=by
 intro w X n_  cD  hp 
 refine (W91 w X n_  cD  _ (v n_ hp)).mono ?_
 rintro _ _ _ _ ⟨r,rfl,h⟩
 exact h
theorem W73 (Kg:S91) (w0) (X0) (bR:List (List aa)) (a1) (c1) (Q:(List aa)->Prop) (hm:VC73 bR Q) (h1:RS (b7 au) w0 X0 a1 bR c1) :
  Ret Tryz.prog 73 #[.slice a1 bR.length c1] aI w0 X0 (fun w X' v=>∃ r,Q r/\∃ co cn,v=.slice co r.length cn/\RS au w X' co r cn):=by
 unfold VC73 at hm
 replace hm:=hm (h1.sm kr)
 refine enter Tryz.func73 rfl (vals:=[.slice a1 bR.length c1]) kr ?_
 intro Z a hS hO hM
 replace h1:=h1.m0 hM
 refine rPe T hS [] [] fun a hS=>?_
 refine rPe T hS [] [(3,I 0)] fun a hS=>?_
 refine b5 (fun a w=>∃ (Z:Nat->Nat) (X:Nat->Nat) (bu:Int),VC73_J1 bR Q bu/\St Tryz.f73.ntmps ⟨[(0,Sl a1 bR c1),(3,I bu)],[]⟩ Z a w X/\Old w0 X0 w X/\RS (b7 au) w X a1 bR c1) ?_ ?_
 ·refine rPe T hS [] [(9,Sl a1 bR c1),(10,I (lN bR)),(11,I 0)] fun a hS=>?_
  refine aK ?_
  obtain ⟨I2,μ2,ci,hm⟩:=hm
  refine cg (σ:=Int × Int) (fun s a w=>∃ Z X,I2 s.1 s.2/\St Tryz.f73.ntmps ⟨[(0,Sl a1 bR c1),(3,I s.1),(9,Sl a1 bR c1),(10,I (lN bR)),(11,I s.2)],[]⟩ Z a w X/\Old w0 X0 w X/\RS (b7 au) w X a1 bR c1/\RS (b7 au) w X a1 bR c1) (fun s=>μ2 s.1 s.2) (⟨0,0⟩) ?_ ?_
  ·exact ⟨Z,_,ci,hS.sl _,hO,h1,h1⟩
  rintro ⟨px,qR⟩ a Ab ⟨Z,Gn,hI,hS,hO,h137,h139⟩
  replace hm:=hm px qR hI
  clear hI ci
  refine rPe T hS [] [(12,B (decide (qR < (lN bR))))] fun a hS=>?_
  refine bc ?_
  refine aG hS (b:=decide (qR < (lN bR))) kr (fun hb=>?_) fun hb=>?_
  ·replace hm:=hm.1 hb
   refine aJ (bc ?_)
   refine aK ?_
   refine bl ?_
   obtain ⟨hq,hm⟩:=hm
   refine op1 (index (e:=26) (k:=.i64) T hS kr kr kr kr h139 kr kr hq.1 hq.2 ?_)
   intro Ra a h142 hS
   refine op1 (dL T hS kr kr kr h142 rfl kr ?_)
   intro v143 a hv hS
   obtain ⟨nP,nK,hv,h146⟩:=hv
   cases hv
   replace hm:=hm (h146.sm kr)
   refine ePe T hS [12,13,14] [(5,Sl nP (gi bR qR) nK)] fun a hS=>?_
   refine rPe T hS [5] [(3,I (wR (px+(lN (gi bR qR)))))] fun a hS=>?_
   refine rPe T hS [] [(20,B (decide ((wR (px+(lN (gi bR qR)))) < 0)))] fun a hS=>?_
   refine aG hS (b:=decide ((wR (px+(lN (gi bR qR)))) < 0)) kr (fun hb=>?_) fun hb=>?_
   ·replace hm:=hm.1 hb
    exact hm.elim
   replace hm:=hm.2 hb
   refine aJ ?_
   refine region (ePe T hS [20] [(11,I (wR (qR+1)))] fun a hS=>?_)
   exact ⟨⟨wR (px+(lN (gi bR qR))),wR (qR+1)⟩,⟨Z,_,hm.1,hS.sl _,hO,h137,h139⟩,hm.2⟩
  replace hm:=hm.2 hb
  refine cb (by rfl) ?_
  exact ⟨Z,_,px,hm,hS.sl _,hO,h137⟩
 rintro a Aa ⟨Z,wF,bu,hm,hS,hO,h101⟩
 unfold VC73_J1 at hm
 refine bl ?_
 refine oPe T hS 1 [3] [(23,I bu)] fun a hS=>?_
 obtain ⟨hq,hm⟩:=hm
 refine op1 (call hS kr kr hb91 kr (fun _ _=>rfl) (Kg _ _ bu 1003 hq) ?_)
 intro v103 a yl ox hE hp hS
 replace hO:=hO.m2 hE
 replace h101:=h101.m1 hE
 obtain ⟨zH,zw,hp,h109⟩:=hp
 obtain ⟨f5,hr⟩:∃ r,cj bu=r:=⟨_,rfl⟩
 replace hm:=hm f5 hr
 rw [hr] at hp h109
 clear hr
 subst hp
 replace hm:=hm (h109.sm kr)
 refine ePe T hS [23,24] [(6,Sl zH f5 zw)] fun a hS=>?_
 refine b5 (fun a w=>∃ (Z:Nat->Nat) (X:Nat->Nat) (bF:List aa) (iy:Option Addr) (io:Nat),VC73_J2 Q bF/\St Tryz.f73.ntmps ⟨[(6,Sl iy bF io)],[]⟩ Z a w X/\Old w0 X0 w X/\OS au 56 w X 1003 iy bF io) ?_ ?_
 ·refine rPe T hS [0] [(25,Sl a1 bR c1),(26,I (lN bR)),(27,I 0)] fun a hS=>?_
  refine aK ?_
  obtain ⟨I1,μ1,ci,hm⟩:=hm
  refine cg (σ:=(List aa) × Int) (fun s a w=>∃ Z X kQ kP,I1 s.1 s.2/\St Tryz.f73.ntmps ⟨[(6,Sl kQ s.1 kP),(25,Sl a1 bR c1),(26,I (lN bR)),(27,I s.2)],[]⟩ Z a w X/\Old w0 X0 w X/\OS au 56 w X 1003 kQ s.1 kP/\RS (b7 au) w X a1 bR c1) (fun s=>μ1 s.1 s.2) (⟨f5,0⟩) ?_ ?_
  ·exact ⟨Z,_,zH,zw,ci,hS.sl _,hO,h109,h101⟩
  rintro ⟨aY,ib⟩ a tz ⟨Z,Mw,kQ,kP,hI,hS,hO,h119,h120⟩
  replace hm:=hm aY ib hI
  clear hI ci
  refine rPe T hS [] [(28,B (decide (ib < (lN bR))))] fun a hS=>?_
  refine bc ?_
  refine aG hS (b:=decide (ib < (lN bR))) kr (fun hb=>?_) fun hb=>?_
  ·replace hm:=hm.1 hb
   refine aJ (bc ?_)
   refine aK ?_
   refine bl ?_
   obtain ⟨hq,hm⟩:=hm
   refine op1 (index (e:=26) (k:=.i64) T hS kr kr kr kr h120 kr kr hq.1 hq.2 ?_)
   intro Cd a h123 hS
   refine op1 (dL T hS kr kr kr h123 rfl kr ?_)
   intro v124 a hv hS
   obtain ⟨ip,ii,hv,h127⟩:=hv
   cases hv
   replace hm:=hm (h127.sm kr)
   refine ePe T hS [28,29,30] [(8,Sl ip (gi bR ib) ii)] fun a hS=>?_
   refine region ?_
   refine oPe T hS 2 [8] [(31,Sl kQ aY kP),(32,Sl ip (gi bR ib) ii)] fun a hS=>?_
   obtain ⟨hq,hm⟩:=hm
   obtain ⟨news,hN⟩:=h127.src
   refine op1 (append (E:=56) (T:=au) (col:=1003) (xs:=aY) T hS kr kr kr kr h119 hN kr kr kr kr hq ?_)
   intro IG Iq a qS q7 hE h130 hS
   clear hq hN
   clear h119
   replace hO:=hO.m2 hE
   replace h120:=h120.m1 hE
   replace h127:=h127.m1 hE
   refine ePe T hS [32,33] [(6,Sl IG (aY++(gi bR ib)) Iq)] fun a hS=>?_
   refine region (ePe T hS [] [(27,I (wR (ib+1)))] fun a hS=>?_)
   exact ⟨⟨aY++(gi bR ib),wR (ib+1)⟩,⟨Z,_,IG,Iq,hm.1,hS.sl _,hO,h130,h120⟩,hm.2⟩
  replace hm:=hm.2 hb
  refine cb (by rfl) ?_
  exact ⟨Z,_,aY,kQ,kP,hm,hS.sl _,hO,h119⟩
 rintro a r8 ⟨Z,tp,bF,iy,io,hm,hS,hO,h113⟩
 unfold VC73_J2 at hm
 refine rPe T hS [6] [(2,Sl iy bF io)] fun a hS=>?_
 refine aV ?_
 obtain ⟨vj,hE,hF⟩:=h113.freeze (by decide)
 replace hS:=hS.ev hE (cq kr)
 replace hO:=hO.m2 hE
 have h115:=hF; clear hE hF
 exact fin T hS hO (fun c=>c) rfl (r:=[.slice iy bF.length io]) kr (fun X' hM hC=>⟨bF,hm,iy,io,rfl,h115.m0 hM⟩)
theorem C73 (Kg:S91) (v:∀ (bR:List (List aa)),ru bR->VC73 bR (fun r=>r=b8 bR)):S73:=by
 intro w X bR a1 c1   hp h1
 refine (W73 Kg w X bR a1 c1   _ (v bR hp) h1).mono ?_
 rintro _ _ _ _ ⟨r,rfl,h⟩
 exact h
end Go.Proofs.YteahldlmkheleaaGreat
