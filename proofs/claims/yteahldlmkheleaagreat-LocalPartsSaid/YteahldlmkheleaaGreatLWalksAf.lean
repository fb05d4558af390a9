/- Walks of the functions: each returns what its condition asks. -/
import Derived.Test.YteahldlmkheleaaGreatLWalksS
set_option linter.all false
namespace Go.Proofs.YteahldlmkheleaaGreat
open Go Go.Sv
abbrev zAf0 (cU:Nat):Nat->Nat:=fun c=>(bif Nat.beq c 1001 then cU else c)
set_option maxHeartbeats 1000000
theorem W28 (GO:S45) (GN:S50) (GL:S58) (LW:S59) (w0) (X0) (objects:List aj) (l_:List aG) (a1) (c1) (a2) (c2) (Q:Int × Int->Prop) (hm:VC28 objects l_ Q) (h1:RS aB w0 X0 a1 objects c1) (h2:RS bG w0 X0 a2 l_ c2) :
  Ret Tryz.prog 28 #[.slice a1 objects.length c1,.slice a2 l_.length c2] aL w0 X0 (fun w X' v=>∃ r,Q r/\v=.tuple #[.int .i64 r.1,.int .i64 r.2]):=by
 unfold VC28 at hm
 replace hm:=hm (h1.sm kr)
 replace hm:=hm (h2.sm kr)
 refine enter Tryz.func28 rfl (vals:=[.slice a1 objects.length c1,.slice a2 l_.length c2]) kr ?_
 intro Z a hS hO hM
 replace h1:=h1.m0 hM
 replace h2:=h2.m0 hM
 refine rPe T hS [] [] fun a hS=>?_
 refine bg ?_
 refine rPe T hS [] [(20,B ((decide ((lN objects) < 1)) || (decide ((lN objects) > 8))))] (sp:=[16]) fun a hS=>?_
 refine aJ hS (b:=((decide ((lN objects) < 1)) || (decide ((lN objects) > 8)))) kr (fun hb=>?_) fun hb=>?_
 ·replace hm:=hm.1 hb
  refine rPe T hS [0,1,20] [(4,I (-1)),(5,I 2)] fun a hS=>?_
  refine aY ?_
  exact fin T hS hO (fun c=>c) rfl (r:=[.int .i64 (-1),.int .i64 2]) kr (fun X' hM hC=>⟨((-1),2),hm,rfl⟩)
 replace hm:=hm.2 hb
 refine aM ?_
 refine cb (fun a w=>∃ Z X,VC28_J1 objects l_ Q/\St Tryz.f28.ntmps ⟨[(0,Sl a1 objects c1),(1,Sl a2 l_ c2)],[]⟩ Z a w X/\Old w0 X0 w X/\RS aB w X a1 objects c1/\RS bG w X a2 l_ c2) ?_ ?_
 ·refine rPe T hS [20] [(6,I 0)] fun a hS=>?_
  refine aN ?_
  obtain ⟨I2,μ2,cx,hm⟩:=hm
  refine ct (σ:=Int) (fun s a w=>∃ Z X,I2 s/\St Tryz.f28.ntmps ⟨[(0,Sl a1 objects c1),(1,Sl a2 l_ c2),(6,I s)],[]⟩ Z a w X/\Old w0 X0 w X/\RS aB w X a1 objects c1/\RS bG w X a2 l_ c2) (fun s=>μ2 s) (0) ?_ ?_
  ·exact ⟨Z,_,cx,hS.sl _,hO,h1,h2⟩
  rintro jA a Gc ⟨Z,EY,hI,hS,hO,h150,h151⟩
  replace hm:=hm jA hI
  clear hI cx
  refine bg ?_
  refine rPe T hS [] [(24,B (decide (jA < (lN objects))))] fun a hS=>?_
  refine aJ hS (b:=decide (jA < (lN objects))) kr (fun hb=>?_) fun hb=>?_
  ·replace hm:=hm.1 hb
   refine aM (bg ?_)
   refine aN ?_
   refine bq ?_
   refine oPe T hS 2 [24] [(28,Sl a1 objects c1),(29,I jA)] fun a hS=>?_
   obtain ⟨hq,hm⟩:=hm
   refine op1 (index (e:=48) (k:=.i64) T hS kr kr kr kr h150 kr kr hq.1 hq.2 ?_)
   intro Kq a h154 hS
   refine op1 (eU T hS kr kr kr h154 kr kr ?_)
   intro v155 a hv hS
   obtain ⟨Ns,Nj,hv,h158⟩:=hv
   subst hv
   replace hm:=hm (h158.sm kr)
   refine op1 (call hS kr kr hb58 kr (fun _ _=>rfl) (GL _ _ (gi objects jA) Ns Nj h158) ?_)
   intro v159 a Bl Di hE hp hS
   replace hO:=hO.m2 hE
   replace h150:=h150.m1 hE
   replace h151:=h151.m1 hE
   replace h154:=h154.m1 hE
   replace h158:=h158.m1 hE
   obtain ⟨vc,hr⟩:∃ r,cX (gi objects jA)=r:=⟨_,rfl⟩
   replace hm:=hm vc hr
   rw [hr] at hp
   clear hr
   subst hp
   refine ePe T hS [28,29,30,31,32] [(8,I vc.2)] fun a hS=>?_
   refine rPe T hS [8] [(36,B (vc.2 != 0))] fun a hS=>?_
   refine aJ hS (b:=(vc.2 != 0)) kr (fun hb=>?_) fun hb=>?_
   ·replace hm:=hm.1 hb
    refine rPe T hS [0,1,6,36] [(4,I (-1)),(5,I 2)] fun a hS=>?_
    refine aY ?_
    exact fin T hS hO (fun c=>c) rfl (r:=[.int .i64 (-1),.int .i64 2]) kr (fun X' hM hC=>⟨((-1),2),hm,rfl⟩)
   replace hm:=hm.2 hb
   refine aM ?_
   refine region (ePe T hS [36] [(6,I (wR (jA+1)))] fun a hS=>?_)
   exact ⟨wR (jA+1),⟨Z,_,hm.1,hS.sl _,hO,h150,h151⟩,hm.2⟩
  replace hm:=hm.2 hb
  refine cm (by rfl) ?_
  exact ⟨Z,_,hm,hS.sl _,hO,h150,h151⟩
 rintro a Lc ⟨Z,Kh,hm,hS,hO,h101,h102⟩
 unfold VC28_J1 at hm
 refine bq ?_
 refine oPe T hS 1 [] [(38,Sl a2 l_ c2)] fun a hS=>?_
 obtain ⟨hq,hm⟩:=hm
 refine op1 (call hS kr kr hb45 kr (fun _ _=>rfl) (GO _ _ l_ a2 c2 hq h102) ?_)
 intro v103 a zL pt hE hp hS
 replace hO:=hO.m2 hE
 replace h101:=h101.m1 hE
 replace h102:=h102.m1 hE
 obtain ⟨AW,AL,hp,h109⟩:=hp
 obtain ⟨gC,hr⟩:∃ r,cv l_=r:=⟨_,rfl⟩
 replace hm:=hm gC hr
 rw [hr] at hp h109
 clear hr
 subst hp
 replace hm:=hm (h109.sm kr)
 refine op1 (call hS kr kr hb50 kr (fun _ _=>rfl) (GN _ _ gC AW AL h109) ?_)
 intro v110 a DV uC hE hp hS
 replace hO:=hO.m2 hE
 replace h101:=h101.m1 hE
 replace h102:=h102.m1 hE
 replace h109:=h109.m1 hE
 obtain ⟨fT,hr⟩:∃ r,e6 gC=r:=⟨_,rfl⟩
 replace hm:=hm fT hr
 rw [hr] at hp
 clear hr
 subst hp
 refine ePe T hS [38,39,40] [(9,I fT.1),(10,I fT.2)] fun a hS=>?_
 refine bg ?_
 refine rPe T hS [] [(44,B (fT.2 != 0))] fun a hS=>?_
 refine aJ hS (b:=(fT.2 != 0)) kr (fun hb=>?_) fun hb=>?_
 ·replace hm:=hm.1 hb
  refine rPe T hS [0,1,9,10,44] [(4,I fT.1),(5,I fT.2)] fun a hS=>?_
  refine aY ?_
  exact fin T hS hO (fun c=>c) rfl (r:=[.int .i64 fT.1,.int .i64 fT.2]) kr (fun X' hM hC=>⟨(fT.1,fT.2),hm,rfl⟩)
 replace hm:=hm.2 hb
 refine aM ?_
 refine cb (fun a w=>∃ Z X,VC28_J2 l_ Q/\St Tryz.f28.ntmps ⟨[(1,Sl a2 l_ c2)],[]⟩ Z a w X/\Old w0 X0 w X/\RS bG w X a2 l_ c2) ?_ ?_
 ·refine rPe T hS [9,10,44] [(11,I 0)] fun a hS=>?_
  refine aN ?_
  obtain ⟨I1,μ1,cx,hm⟩:=hm
  refine ct (σ:=Int) (fun s a w=>∃ Z X,I1 s/\St Tryz.f28.ntmps ⟨[(0,Sl a1 objects c1),(1,Sl a2 l_ c2),(11,I s)],[]⟩ Z a w X/\Old w0 X0 w X/\RS aB w X a1 objects c1/\RS bG w X a2 l_ c2) (fun s=>μ1 s) (0) ?_ ?_
  ·exact ⟨Z,_,cx,hS.sl _,hO,h101,h102⟩
  rintro dT a wQ ⟨Z,AZ,hI,hS,hO,h115,h116⟩
  replace hm:=hm dT hI
  clear hI cx
  refine bg ?_
  refine rPe T hS [] [(50,B (decide (dT < (lN l_))))] fun a hS=>?_
  refine aJ hS (b:=decide (dT < (lN l_))) kr (fun hb=>?_) fun hb=>?_
  ·replace hm:=hm.1 hb
   refine aM (bg ?_)
   refine aN ?_
   refine bq ?_
   refine oPe T hS 2 [50] [(53,Sl a2 l_ c2),(54,I dT)] fun a hS=>?_
   obtain ⟨hq,hm⟩:=hm
   refine op1 (index (e:=77) (k:=.i64) T hS kr kr kr kr h116 kr kr hq.1 hq.2 ?_)
   intro HN a h119 hS
   refine op1 (eU T hS kr kr kr h119 kr kr ?_)
   intro v120 a hv hS
   subst hv
   refine eM T hS ⟨[(0,Sl a1 objects c1),(1,Sl a2 l_ c2),(11,I dT),(12,Pt 13 0)],[(13,(77,[I ((gi l_ dT).aA),I (((gi l_ dT).aW).bo),I (((gi l_ dT).aW).ak),I (((gi l_ dT).aW).N)]))]⟩ fun Z a Bp xZ hS hE hr=>?_
   replace hO:=hO.m2 hE
   replace h115:=h115.m1 hE
   replace h116:=h116.m1 hE
   clear hE hr
   refine bg ?_
   refine rPe T hS [] [(66,B ((decide (((gi l_ dT).aA) < 0)) || (decide (((gi l_ dT).aA)≥(lN objects)))))] (sp:=[60]) fun a hS=>?_
   refine aJ hS (b:=((decide (((gi l_ dT).aA) < 0)) || (decide (((gi l_ dT).aA)≥(lN objects))))) kr (fun hb=>?_) fun hb=>?_
   ·replace hm:=hm.1 hb
    refine rP T hS ⟨[(4,I dT),(5,I 2)],[]⟩ fun a hS=>?_
    refine aY ?_
    exact fin T hS hO (fun c=>c) rfl (r:=[.int .i64 dT,.int .i64 2]) kr (fun X' hM hC=>⟨(dT,2),hm,rfl⟩)
   replace hm:=hm.2 hb
   refine aM (bg ?_)
   refine cb (fun a w=>∃ (Z:Nat->Nat) (X:Nat->Nat) (eL:Bool),VC28_J3 objects l_ Q I1 μ1 dT eL/\St Tryz.f28.ntmps ⟨[(0,Sl a1 objects c1),(1,Sl a2 l_ c2),(11,I dT),(12,Pt 13 0),(79,B eL)],[(13,(77,[I ((gi l_ dT).aA),I (((gi l_ dT).aW).bo),I (((gi l_ dT).aW).ak),I (((gi l_ dT).aW).N)]))]⟩ Z a w X/\Old w0 X0 w X/\RS aB w X a1 objects c1/\RS bG w X a2 l_ c2) ?_ ?_
   ·refine iB [13] mixed hS ?_
    intro tl wB hS hE hD hH
    replace hO:=hO.m2 hE
    replace h115:=h115.m1 hE
    replace h116:=h116.m1 hE
    refine tke T [0,1,2,3,4] [13] hS hH #[true,true,true,true,true,false,false,false,false,false,false,false] 7 [] [(72,B ((((gi l_ dT).aW).bo) == 2))] fun a hS=>?_
    rcases bft ((((gi l_ dT).aW).bo) == 2) with hb | hb
    ·replace hS:=hS.lit (t:=72) kr hb
     replace hm:=hm.1 hb
     refine tke T [5,6,8,9] [13] hS hH #[true,true,true,true,true,true,true,false,true,true,false,false] 3 [] [(73,Sl a2 l_ c2),(74,I dT),(77,I ((gi l_ dT).aA))] fun a hS=>?_
     obtain ⟨hq,hm⟩:=hm
     refine only 7 kr (by rfl) (call hS kr kr hb59 kr (fun _ _=>rfl) (LW _ _ l_ dT a2 c2 hq h116) ?_)
     intro v138 a tj wA hE hp hS
     replace hO:=hO.m2 hE
     replace hD:=hD.ev hE rfl
     replace h115:=h115.m1 hE
     replace h116:=h116.m1 hE
     obtain ⟨xh,hr⟩:∃ r,fG l_ dT=r:=⟨_,rfl⟩
     replace hm:=hm xh hr
     rw [hr] at hp
     clear hr
     subst hp
     replace hS:=hS.sle [] [(75,I xh)]
     refine di (bP.of hS (bks:=[13]) kr hD) ?_
     intro hH
     refine tke T [10,11] [13] hS hH (tts 12) 0 [72,73,74,77,75] [(79,B (xh != ((gi l_ dT).aA)))] fun a hS=>?_
     refine aX kr ?_
     replace hS:=hS.sle [] []
     exact ⟨Z,_,(xh != ((gi l_ dT).aA)),hm,hS.sl _,hO,h115,h116⟩
    replace hS:=hS.lit (t:=72) kr hb
    replace hm:=hm.2 hb
    refine tke T [5,6,8,7,9,10,11] [13] hS hH (tts 12) 0 [72] [(79,B false)] fun a hS=>?_
    refine aX kr ?_
    replace hS:=hS.sle [] []
    exact ⟨Z,_,false,hm,hS.sl _,hO,h115,h116⟩
   rintro a Gh ⟨Z,NX,eL,hm,hS,hO,h121,h122⟩
   unfold VC28_J3 at hm
   refine aJ hS (b:=eL) kr (fun hb=>?_) fun hb=>?_
   ·replace hm:=hm.1 hb
    refine rP T hS ⟨[(4,I dT),(5,I 32)],[]⟩ fun a hS=>?_
    refine aY ?_
    exact fin T hS hO (fun c=>c) rfl (r:=[.int .i64 dT,.int .i64 32]) kr (fun X' hM hC=>⟨(dT,32),hm,rfl⟩)
   replace hm:=hm.2 hb
   refine aM ?_
   refine cb (fun a w=>∃ (Z:Nat->Nat) (X:Nat->Nat) (nv:Bool),VC28_J4 Q I1 μ1 dT nv/\St Tryz.f28.ntmps ⟨[(0,Sl a1 objects c1),(1,Sl a2 l_ c2),(11,I dT),(96,B nv)],[]⟩ Z a w X/\Old w0 X0 w X/\RS aB w X a1 objects c1/\RS bG w X a2 l_ c2) ?_ ?_
   ·refine iB [13] mixed hS ?_
    intro uJ Dm hS hE hD hH
    replace hO:=hO.m2 hE
    replace h121:=h121.m1 hE
    replace h122:=h122.m1 hE
    refine tke T [0,1,2,3,4] [13] hS hH #[true,true,true,true,true,false,false,false,false,false,false,false,false,false,false,false] 11 [] [(85,B ((((gi l_ dT).aW).bo) == 1))] fun a hS=>?_
    rcases bft ((((gi l_ dT).aW).bo) == 1) with hb | hb
    ·replace hS:=hS.lit (t:=85) kr hb
     replace hm:=hm.1 hb
     refine tke T [5,8,9,6,10,7] [13] hS hH #[true,true,true,true,true,true,true,true,true,true,true,false,false,false,false,false] 5 [12] [(88,I (((gi l_ dT).aW).N)),(89,Sl a1 objects c1),(91,I ((gi l_ dT).aA))] fun a hS=>?_
     obtain ⟨hq,hm⟩:=hm
     refine dm (e:=48) (k:=.i64) T 11 hS kr kr kr (by rfl) kr hH kr kr h121 kr kr hq.1 hq.2 ?_
     intro N7 a h130 hS
     have Cx:=h130.here
     refine dE (off:=1) (fsz:=1) (ft:=3) (TF:=tI) (y:=(gi objects ((gi l_ dT).aA)).az) 12 T hS kr kr kr (by rfl) kr hH kr h130 kr kr kr (fun cs h=>nt h) ?_
     intro HL a h132 fR hS
     have vI:=Cx
     rw [← fR] at vI
     clear fR
     refine eu T 13 hS kr kr kr (by rfl) kr hH kr h132 vI rfl kr ?_
     intro v133 a hv hS
     cases hv
     refine tke T [14,15] [13] hS hH (tts 16) 0 [85,88,89,91,92,93,94] [(96,B (decide ((((gi l_ dT).aW).N)≥((gi objects ((gi l_ dT).aA)).az))))] fun a hS=>?_
     refine aX kr ?_
     replace hS:=hS.sl ⟨[(0,Sl a1 objects c1),(1,Sl a2 l_ c2),(11,I dT),(96,B (decide ((((gi l_ dT).aW).N)≥((gi objects ((gi l_ dT).aA)).az))))],[]⟩
     exact ⟨Z,_,decide ((((gi l_ dT).aW).N)≥((gi objects ((gi l_ dT).aA)).az)),hm,hS.sl _,hO,h121,h122⟩
    replace hS:=hS.lit (t:=85) kr hb
    replace hm:=hm.2 hb
    refine tke T [5,8,9,6,10,7,11,12,13,14,15] [13] hS hH (tts 16) 0 [12,85] [(96,B false)] fun a hS=>?_
    refine aX kr ?_
    replace hS:=hS.sl ⟨[(0,Sl a1 objects c1),(1,Sl a2 l_ c2),(11,I dT),(96,B false)],[]⟩
    exact ⟨Z,_,false,hm,hS.sl _,hO,h121,h122⟩
   rintro a DU ⟨Z,Dk,nv,hm,hS,hO,h124,h125⟩
   unfold VC28_J4 at hm
   refine aJ hS (b:=nv) kr (fun hb=>?_) fun hb=>?_
   ·replace hm:=hm.1 hb
    refine rPe T hS [0,1,11,96] [(4,I dT),(5,I 31)] fun a hS=>?_
    refine aY ?_
    exact fin T hS hO (fun c=>c) rfl (r:=[.int .i64 dT,.int .i64 31]) kr (fun X' hM hC=>⟨(dT,31),hm,rfl⟩)
   replace hm:=hm.2 hb
   refine aM ?_
   refine region (ePe T hS [96] [(11,I (wR (dT+1)))] fun a hS=>?_)
   exact ⟨wR (dT+1),⟨Z,_,hm.1,hS.sl _,hO,h124,h125⟩,hm.2⟩
  replace hm:=hm.2 hb
  refine cm (by rfl) ?_
  exact ⟨Z,_,hm,hS.sl _,hO,h116⟩
 rintro a Gg ⟨Z,AY,hm,hS,hO,h114⟩
 unfold VC28_J2 at hm
 refine rPe T hS [1] [(4,I (lN l_)),(5,I 0)] fun a hS=>?_
 refine aY ?_
 exact fin T hS hO (fun c=>c) rfl (r:=[.int .i64 (lN l_),.int .i64 0]) kr (fun X' hM hC=>⟨((lN l_),0),hm,rfl⟩)
theorem C28 (GO:S45) (GN:S50) (GL:S58) (LW:S59) (v:∀ (objects:List aj) (l_:List aG),k5 objects l_->VC28 objects l_ (fun r=>r=dJ objects l_)):S28:=by
 intro w X objects l_ a1 c1 a2 c2   hp h1 h2
 refine (W28 GO GN GL LW w X objects l_ a1 c1 a2 c2   _ (v objects l_ hp) h1 h2).mono ?_
 rintro _ _ _ _ ⟨r,rfl,h⟩
 exact h
theorem W48 (w0) (X0) (i_:Int) (ao:al) (ay:Int) (a1) (c1) (a2) (c2) (b1) (i1) (b2) (i2) (Q:Bool->Prop) (hm:VC48 i_ ao ay Q) (h1:RS aB w0 X0 a1 ao.ae c1) (h2:RS aP w0 X0 a2 ao.aq c2) (fB:Cell w0 X0 b1 i1 25 [.slice a1 ao.ae.length c1,.slice a2 ao.aq.length c2]) (gO:Cell w0 X0 b2 i2 3 [.int .i64 ay]) (hA:dZ [i1,i2]) :
  Ret Tryz.prog 48 #[.int .i64 i_,.pointer (some ⟨b1,0,none⟩),.pointer (some ⟨b2,0,none⟩)] (pR [i1,i2]) w0 X0 (fun w X' v=>∃ r,Q r/\v=.bool r/\Cell w X' b1 i1 25 [.slice a1 ao.ae.length c1,.slice a2 ao.aq.length c2]/\Cell w X' b2 i2 3 [.int .i64 ay]):=by
 unfold VC48 at hm
 replace hm:=hm (h1.sm kr)
 replace hm:=hm (h2.sm kr)
 refine fO Tryz.func48 rfl (dL [(i1,901),(i2,902)]) (fun id=>(bif Nat.beq id 901 then b1 else (bif Nat.beq id 902 then b2 else 0))) (args:=[I i_,Pt 901 0,Pt 902 0]) (bxs:=[(901,(25,[Sl a1 ao.ae c1,Sl a2 ao.aq c2])),(902,(3,[I ay]))]) kr rfl (bu.cons kr (fB.map (bQ 0 hA.1 rfl)) (bu.cons kr (gO.map (bQ 1 hA.1 rfl)) bu.nil)) (fD (fun q hq=>(hA.2 q.1 (List.mem_map.2 ⟨q,hq,rfl⟩)).1)) ?_
 intro a hS hO hM
 have hP:Pin [(901,b1),(902,b2)] (fun id=>(bif Nat.beq id 901 then b1 else (bif Nat.beq id 902 then b2 else 0))):=by intro q hq; simp at hq; rcases hq with rfl | rfl <;> rfl
 generalize (fun id=>(bif Nat.beq id 901 then b1 else (bif Nat.beq id 902 then b2 else 0)))=Z at hS hP
 clear fB gO
 replace h1:=h1.m0 hM
 replace h2:=h2.m0 hM
 refine rPe T hS [] [] fun a hS=>?_
 refine dG [901,902] mixed hS ?_
 intro oO pw hS hE hD hH
 replace hO:=hO.m2 hE
 replace h1:=h1.m1 hE
 replace h2:=h2.m1 hE
 refine tke T [0,2,6,1] [901,902] hS hH #[true,true,true,false,false,false,true,false,false] 5 [0,1,2] [(6,Sl a2 ao.aq c2),(7,I i_),(11,I ay)] fun a hS=>?_
 obtain ⟨hq,hm⟩:=hm
 refine dm (e:=63) (k:=.i64) T 3 hS kr kr kr (by rfl) kr hH kr kr h2 kr kr hq.1 hq.2 ?_
 intro uE a h104 hS
 have vK:=h104.here
 refine dE (off:=0) (fsz:=1) (ft:=3) (TF:=tI) (y:=(gi ao.aq i_).aA) 4 T hS kr kr kr (by rfl) kr hH kr h104 kr kr kr (fun cs h=>kH h) ?_
 intro ya a h106 fR hS
 have rq:=vK
 rw [← fR] at rq
 clear fR
 refine eu T 5 hS kr kr kr (by rfl) kr hH kr h106 rq rfl kr ?_
 intro v107 a hv hS
 cases hv
 refine tke T [7,8] [901,902] hS hH (tts 9) 0 [6,7,11,8,9,10] [(4,B (((gi ao.aq i_).aA) == ay))] fun a hS=>?_
 refine aX kr ?_
 replace hS:=hS.sle [] []
 refine aY ?_
 exact gW T hS hO (fun c h=>b0 kr h) (fun c h=>b5 (l:=[(i1,901),(i2,902)]) h) (bU [(i1,901),(i2,902)]) rfl (r:=[.bool (((gi ao.aq i_).aA) == ay)]) kr (fun X' hM hC=>⟨(((gi ao.aq i_).aA) == ay),hm,rfl,((hS.cell (id:=901) (t:=25) (cs:=[Sl a1 ao.ae c1,Sl a2 ao.aq c2]) kr).out (f:=(bU [(i1,901),(i2,902)])) hC kr kr (hP.at 0 rfl)),((hS.cell (id:=902) (t:=3) (cs:=[I ay]) kr).out (f:=(bU [(i1,901),(i2,902)])) hC kr kr (hP.at 1 rfl))⟩)
theorem C48 (v:∀ (i_:Int) (ao:al) (ay:Int),yp i_ ao ay->VC48 i_ ao ay (fun r=>r=eX i_ ao ay)):S48:=by
 intro w X i_ ao ay a1 c1 a2 c2  b1 i1 b2 i2 hp h1 h2 fB gO hA
 refine (W48 w X i_ ao ay a1 c1 a2 c2  b1 i1 b2 i2 _ (v i_ ao ay hp) h1 h2 fB gO hA).mono ?_
 rintro _ _ _ _ ⟨r,rfl,h⟩
 exact h
theorem W46_48 (L4:S48) (w0) (X0) (l_:List aw) (ao:al) (ay:Int) (a1) (c1) (a2) (c2) (a3) (c3) (b1) (i1) (b2) (i2) (Q:(List aw)->Prop) (hm:VC46_48 l_ ao ay Q) (h1:RS aR w0 X0 a1 l_ c1) (h2:RS aB w0 X0 a2 ao.ae c2) (h3:RS aP w0 X0 a3 ao.aq c3) (fB:Cell w0 X0 b1 i1 25 [.slice a2 ao.ae.length c2,.slice a3 ao.aq.length c3]) (gO:Cell w0 X0 b2 i2 3 [.int .i64 ay]) (hA:dZ [i1,i2]) :
  Ret Tryz.prog 46 #[.slice a1 l_.length c1,.func (.func 48) #[] #[.pointer (some ⟨b1,0,none⟩),.pointer (some ⟨b2,0,none⟩)]] (pR [i1,i2]) w0 X0 (fun w X' v=>∃ r,Q r/\∃ cz cy,v=.slice cz r.length cy/\RS aR w X' cz r cy/\Cell w X' b1 i1 25 [.slice a2 ao.ae.length c2,.slice a3 ao.aq.length c3]/\Cell w X' b2 i2 3 [.int .i64 ay]):=by
 unfold VC46_48 at hm
 replace hm:=hm (h1.sm kr)
 replace hm:=hm (h2.sm kr)
 replace hm:=hm (h3.sm kr)
 refine fO Tryz.func46 rfl (dL [(i1,901),(i2,902)]) (fun id=>(bif Nat.beq id 901 then b1 else (bif Nat.beq id 902 then b2 else 0))) (args:=[Sl a1 l_ c1,.f (.func 48) [] [.p 901 0,.p 902 0]]) (bxs:=[(901,(25,[Sl a2 ao.ae c2,Sl a3 ao.aq c3])),(902,(3,[I ay]))]) kr rfl (bu.cons kr (fB.map (bQ 0 hA.1 rfl)) (bu.cons kr (gO.map (bQ 1 hA.1 rfl)) bu.nil)) (fD (fun q hq=>(hA.2 q.1 (List.mem_map.2 ⟨q,hq,rfl⟩)).1)) ?_
 intro a hS hO hM
 have hP:Pin [(901,b1),(902,b2)] (fun id=>(bif Nat.beq id 901 then b1 else (bif Nat.beq id 902 then b2 else 0))):=by intro q hq; simp at hq; rcases hq with rfl | rfl <;> rfl
 generalize (fun id=>(bif Nat.beq id 901 then b1 else (bif Nat.beq id 902 then b2 else 0)))=Z at hS hP
 clear fB gO
 replace h1:=h1.m0 hM
 replace h2:=h2.m0 hM
 replace h3:=h3.m0 hM
 refine rPe T hS [] [] fun a hS=>?_
 refine rPe T hS [] [(5,V (.slice none 0 0))] fun a hS=>?_
 refine cb (fun a w=>∃ (Z:Nat->Nat) (X:Nat->Nat) (bE:List aw) (dy:Option Addr) (dx:Nat),VC46_48_J1 Q bE/\St Tryz.f46.ntmps ⟨[(5,Sl dy bE dx)],[(901,(25,[Sl a2 ao.ae c2,Sl a3 ao.aq c3])),(902,(3,[I ay]))]⟩ Z a w X/\gj (dL [(i1,901),(i2,902)]) w0 X0 w X/\Pin [(901,b1),(902,b2)] Z/\OS aR 61 w X 1005 dy bE dx/\RS aB w X a2 ao.ae c2/\RS aP w X a3 ao.aq c3) ?_ ?_
 ·refine rPe T hS [0] [(8,Sl a1 l_ c1),(9,I (lN l_)),(10,I 0)] fun a hS=>?_
  refine aN ?_
  obtain ⟨I1,μ1,cx,hm⟩:=hm
  refine ct (σ:=(List aw) × Int) (fun s a w=>∃ Z X fg ff,I1 s.1 s.2/\St Tryz.f46.ntmps ⟨[(1,.f (.func 48) [] [.p 901 0,.p 902 0]),(5,Sl fg s.1 ff),(8,Sl a1 l_ c1),(9,I (lN l_)),(10,I s.2)],[(901,(25,[Sl a2 ao.ae c2,Sl a3 ao.aq c3])),(902,(3,[I ay]))]⟩ Z a w X/\gj (dL [(i1,901),(i2,902)]) w0 X0 w X/\Pin [(901,b1),(902,b2)] Z/\OS aR 61 w X 1005 fg s.1 ff/\RS aR w X a1 l_ c1/\RS aB w X a2 ao.ae c2/\RS aP w X a3 ao.aq c3) (fun s=>μ1 s.1 s.2) (⟨[],0⟩) ?_ ?_
  ·exact ⟨Z,_,none,0,cx,hS.sl _,hO,hP,(OS.nil _ _ _ _ _),h1,h2,h3⟩
  rintro ⟨cr,iL⟩ a wQ ⟨Z,AZ,fg,ff,hI,hS,hO,hP,h112,h113,h115,h116⟩
  replace hm:=hm cr iL hI
  clear hI cx
  refine rPe T hS [] [(11,B (decide (iL < (lN l_))))] fun a hS=>?_
  refine bg ?_
  refine aJ hS (b:=decide (iL < (lN l_))) kr (fun hb=>?_) fun hb=>?_
  ·replace hm:=hm.1 hb
   refine aM ?_
   refine cb (fun a w=>∃ (Z:Nat->Nat) (X:Nat->Nat) (dT:List aw) (ic:Option Addr) (h8:Nat),VC46_48_J2 I1 μ1 cr iL dT/\St Tryz.f46.ntmps ⟨[(1,.f (.func 48) [] [.p 901 0,.p 902 0]),(5,Sl ic dT h8),(8,Sl a1 l_ c1),(9,I (lN l_)),(10,I iL)],[(901,(25,[Sl a2 ao.ae c2,Sl a3 ao.aq c3])),(902,(3,[I ay]))]⟩ Z a w X/\gj (dL [(i1,901),(i2,902)]) w0 X0 w X/\Pin [(901,b1),(902,b2)] Z/\OS aR 61 w X 1005 ic dT h8/\RS aR w X a1 l_ c1/\RS aB w X a2 ao.ae c2/\RS aP w X a3 ao.aq c3) ?_ ?_
   ·refine aN ?_
    refine bq ?_
    refine oPe T hS 1 [11] [(12,I iL)] fun a hS=>?_
    obtain ⟨hq,hm⟩:=hm
    refine op1 (index (e:=61) (k:=.i64) T hS kr kr kr kr h113 kr kr hq.1 hq.2 ?_)
    intro E7 a h125 hS
    refine op1 (eU T hS kr kr kr h125 kr kr ?_)
    intro v126 a hv hS
    subst hv
    refine eM T hS ⟨[(1,.f (.func 48) [] [.p 901 0,.p 902 0]),(5,Sl fg cr ff),(6,I iL),(7,Pt 8 0),(8,Sl a1 l_ c1),(9,I (lN l_)),(10,I iL)],[(8,(61,(cE (gi l_ iL)))),(901,(25,[Sl a2 ao.ae c2,Sl a3 ao.aq c3])),(902,(3,[I ay]))]⟩ fun Z a qn sa hS hE hr=>?_
    replace hO:=hO.m2 hE
    replace h112:=h112.m2 hE
    replace h113:=h113.m1 hE
    replace h115:=h115.m1 hE
    replace h116:=h116.m1 hE
    replace hP:=hP.mv hr kr
    clear hE hr
    refine bq ?_
    refine oPe T hS 2 [6] [(15,.f (.func 48) [] [.p 901 0,.p 902 0]),(16,I iL)] fun a hS=>?_
    obtain ⟨hq,hm⟩:=hm
    refine op1 (kx (fi:=[]) (cp:=[.p 901 0,.p 902 0]) hS kr kr hb48 kr kr (L4 _ _ iL (⟨ao.ae,ao.aq⟩:al) ay a2 c2 a3 c3 (Z 901) 901 (Z 902) 902 hq h115 h116 (hS.cell (id:=901) (t:=25) (cs:=[Sl a2 ao.ae c2,Sl a3 ao.aq c3]) kr) (hS.cell (id:=902) (t:=3) (cs:=[I ay]) kr) ⟨by decide,by decide⟩) ?_)
    intro v127 a rV sb hE hp hS
    replace hO:=hO.m2 hE
    replace h112:=h112.m2 hE
    replace h113:=h113.m1 hE
    replace h115:=h115.m1 hE
    replace h116:=h116.m1 hE
    obtain ⟨hp,FK,FJ⟩:=hp
    obtain ⟨tJ,hr⟩:∃ r,eX iL (⟨ao.ae,ao.aq⟩:al) ay=r:=⟨_,rfl⟩
    replace hm:=hm tJ hr
    rw [hr] at hp
    clear hr
    subst hp
    replace hS:=hS.cQ (id:=901) (t:=25) (cs:=[Sl a2 ao.ae c2,Sl a3 ao.aq c3]) kr FK
    replace hS:=hS.cQ (id:=902) (t:=3) (cs:=[I ay]) kr FJ
    clear FK FJ
    refine gY ?_
    refine aJ hS (b:=tJ) kr (fun hb=>?_) fun hb=>?_
    ·replace hm:=hm.1 hb
     refine region ?_
     refine oP T hS 2 ⟨[(1,.f (.func 48) [] [.p 901 0,.p 902 0]),(5,Sl fg cr ff),(8,Sl a1 l_ c1),(9,I (lN l_)),(10,I iL),(18,Sl fg cr ff),(19,V (.agg #[.int .i64 ((gi l_ iL).bo),.int .i64 ((gi l_ iL).ak),.int .i64 ((gi l_ iL).N)]))],[(901,(25,[Sl a2 ao.ae c2,Sl a3 ao.aq c3])),(902,(3,[I ay]))]⟩ fun a hS=>?_
     refine op1 (lit (E:=61) (col:=0) (T:=aR) (vals:=[.agg #[.int .i64 ((gi l_ iL).bo),.int .i64 ((gi l_ iL).ak),.int .i64 ((gi l_ iL).N)]]) (ys:=[(gi l_ iL)]) T hS kr kr kr kr (by exact ⟨rfl,trivial⟩) rfl kr kr kr kr ?_)
     intro b133 a uH uz hE h136 hN hS
     clear hN
     replace hO:=hO.m2 hE
     replace h112:=h112.m2 hE
     replace h113:=h113.m1 hE
     replace h115:=h115.m1 hE
     replace h116:=h116.m1 hE
     replace h136:=h136.rs0
     obtain ⟨hq,hm⟩:=hm
     obtain ⟨news,hN⟩:=h136.src
     refine op1 (append (E:=61) (T:=aR) (col:=1005) (xs:=cr) T hS kr kr kr kr h112 hN kr kr kr kr hq ?_)
     intro nS nO a Io Kj hE h139 hS
     clear hq hN
     clear h112
     replace hO:=hO.m2 hE
     replace h113:=h113.m1 hE
     replace h115:=h115.m1 hE
     replace h116:=h116.m1 hE
     replace h136:=h136.m1 hE
     refine ePe T hS [19,20,21] [(5,Sl nS (cr++[(gi l_ iL)]) nO)] fun a hS=>?_
     exact ⟨Z,_,cr++[(gi l_ iL)],nS,nO,hm,hS.sl _,hO,hP,h139,h113,h115,h116⟩
    replace hm:=hm.2 hb
    refine aM ?_
    exact ⟨Z,_,cr,fg,ff,hm,hS.sl _,hO,hP,h112,h113,h115,h116⟩
   rintro a DT ⟨Z,NW,dT,ic,h8,hm,hS,hO,hP,h120,h121,h122,h123⟩
   unfold VC46_48_J2 at hm
   refine region (ePe T hS [] [(10,I (wR (iL+1)))] fun a hS=>?_)
   exact ⟨⟨dT,wR (iL+1)⟩,⟨Z,_,ic,h8,hm.1,hS.sl _,hO,hP,h120,h121,h122,h123⟩,hm.2⟩
  replace hm:=hm.2 hb
  refine cm (by rfl) ?_
  exact ⟨Z,_,cr,fg,ff,hm,hS.sl _,hO,hP,h112,h115,h116⟩
 rintro a Gg ⟨Z,AY,bE,dy,dx,hm,hS,hO,hP,h104,h105,h106⟩
 unfold VC46_48_J1 at hm
 refine rPe T hS [5] [(4,Sl dy bE dx)] fun a hS=>?_
 refine aY ?_
 obtain ⟨m9,hE,hF⟩:=h104.freeze (by decide)
 replace hS:=hS.ev hE (cA kr)
 replace hO:=hO.m2 hE
 replace h105:=h105.m1 hE
 replace h106:=h106.m1 hE
 have h108:=hF; clear hE hF
 exact gW T hS hO (fun c h=>b0 kr h) (fun c h=>b5 (l:=[(i1,901),(i2,902)]) h) (bU [(i1,901),(i2,902)]) rfl (r:=[.slice dy bE.length dx]) kr (fun X' hM hC=>⟨bE,hm,dy,dx,rfl,h108.m0 hM,((hS.cell (id:=901) (t:=25) (cs:=[Sl a2 ao.ae c2,Sl a3 ao.aq c3]) kr).out (f:=(bU [(i1,901),(i2,902)])) hC kr kr (hP.at 0 rfl)),((hS.cell (id:=902) (t:=3) (cs:=[I ay]) kr).out (f:=(bU [(i1,901),(i2,902)])) hC kr kr (hP.at 1 rfl))⟩)
theorem C46_48 (L4:S48) (v:∀ (l_:List aw) (ao:al) (ay:Int),yu l_ ao ay->VC46_48 l_ ao ay (fun r=>r=bS l_ ao ay)):S46_48:=by
 intro w X l_ ao ay a1 c1 a2 c2 a3 c3  b1 i1 b2 i2 hp h1 h2 h3 fB gO hA
 refine (W46_48 L4 w X l_ ao ay a1 c1 a2 c2 a3 c3  b1 i1 b2 i2 _ (v l_ ao ay hp) h1 h2 h3 fB gO hA).mono ?_
 rintro _ _ _ _ ⟨r,rfl,h⟩
 exact h
theorem W17 (rY:S23) (xA:S46_48) (Cc:S47) (L3:S49) (w0) (X0) (h_:al) (k_:Int) (a1) (c1) (a2) (c2) (Q:fP->Prop) (hm:VC17 h_ k_ Q) (h1:RS aB w0 X0 a1 h_.ae c1) (h2:RS aP w0 X0 a2 h_.aq c2) :
  Ret Tryz.prog 17 #[.agg #[.slice a1 h_.ae.length c1,.slice a2 h_.aq.length c2],.int .i64 k_] aL w0 X0 (fun w X' v=>∃ r,Q r/\∃ cz cy jd jc,v=.agg #[.int .i64 r.aA.au,.int .i64 r.aA.az,.int .i64 r.aA.aH,.slice cz r.aA.Rows.length cy,.slice jd r.aq.length jc]/\RS aC w X' cz r.aA.Rows cy/\RS aR w X' jd r.aq jc):=by
 unfold VC17 at hm
 replace hm:=hm (h1.sm kr)
 replace hm:=hm (h2.sm kr)
 refine enter Tryz.func17 rfl (vals:=[.agg #[.slice a1 h_.ae.length c1,.slice a2 h_.aq.length c2],.int .i64 k_]) kr ?_
 intro Z a hS hO hM
 replace h1:=h1.m0 hM
 replace h2:=h2.m0 hM
 refine rM T hS ⟨[(2,Pt 3 0),(3,Pt 4 0),(4,Pt 5 0)],[(3,(25,[Sl a1 h_.ae c1,Sl a2 h_.aq c2])),(4,(3,[I k_])),(5,(51,[I 0,I 0,I 0,V (.slice none 0 0),V (.slice none 0 0)]))]⟩ fun Z a qn sa hS hE hr=>?_
 replace hO:=hO.m2 hE
 replace h1:=h1.m1 hE
 replace h2:=h2.m1 hE
 clear hE hr
 refine bg ?_
 refine bq ?_
 refine oPe T hS 1 [] [(10,V (.agg #[.slice a1 h_.ae.length c1,.slice a2 h_.aq.length c2]))] fun a hS=>?_
 obtain ⟨hq,hm⟩:=hm
 refine op1 (call hS kr kr hb23 kr (fun _ _=>rfl) (rY _ _ h_ a1 c1 a2 c2 hq h1 h2) ?_)
 intro v101 a fp fx hE hp hS
 replace hO:=hO.m2 hE
 replace h1:=h1.m1 hE
 replace h2:=h2.m1 hE
 obtain ⟨ax,hr⟩:∃ r,aE h_=r:=⟨_,rfl⟩
 replace hm:=hm ax hr
 rw [hr] at hp
 clear hr
 subst hp
 refine ePe T hS [10,11] [(6,I ax.2)] fun a hS=>?_
 refine rPe T hS [6] [(26,B (((ax.2 != 0) || (decide (k_ < 0))) || (decide (k_≥(lN h_.ae)))))] (sp:=[16,20]) fun a hS=>?_
 refine aJ hS (b:=(((ax.2 != 0) || (decide (k_ < 0))) || (decide (k_≥(lN h_.ae))))) kr (fun hb=>?_) fun hb=>?_
 ·replace hm:=hm.1 hb
  refine rM T hS ⟨[(4,Pt 5 0)],[(5,(51,[I 0,I 0,I 0,V (.slice none 0 0),V (.slice none 0 0)]))]⟩ fun Z a nz mi hS hE hr=>?_
  replace hO:=hO.m2 hE
  clear hE hr
  refine aY ?_
  exact fin T hS hO (fun c=>c) rfl (r:=[.agg #[.int .i64 0,.int .i64 0,.int .i64 0,.slice none 0 0,.slice none 0 0]]) kr (fun X' hM hC=>⟨(⟨(⟨0,0,0,[]⟩:aj),[]⟩:fP),hm,none,0,none,0,rfl,RS.empty _ _ _,RS.empty _ _ _⟩)
 replace hm:=hm.2 hb
 refine aM ?_
 refine bq ?_
 refine oPe T hS 1 [26] [(28,V (.agg #[.slice a1 h_.ae.length c1,.slice a2 h_.aq.length c2]))] fun a hS=>?_
 obtain ⟨hq,hm⟩:=hm
 refine op1 (call hS kr kr hb47 kr (fun _ _=>rfl) (Cc _ _ h_ a1 c1 a2 c2 hq h1 h2) ?_)
 intro v107 a Gl Dq hE hp hS
 replace hO:=hO.m2 hE
 replace h1:=h1.m1 hE
 replace h2:=h2.m1 hE
 obtain ⟨jb,iZ,hp,h113⟩:=hp
 obtain ⟨fu,hr⟩:∃ r,bT h_=r:=⟨_,rfl⟩
 replace hm:=hm fu hr
 rw [hr] at hp h113
 clear hr
 subst hp
 replace hm:=hm (h113.sm kr)
 refine oPe T hS 1 [28] [(30,.f (.func 48) [] [.p 3 0,.p 4 0])] fun a hS=>?_
 obtain ⟨hq,hm⟩:=hm
 refine op1 (ma hS kr kr hb46 kr (xA _ _ fu h_ k_ jb iZ a1 c1 a2 c2 (Z 3) 3 (Z 4) 4 hq h113 h1 h2 (hS.cell (id:=3) (t:=25) (cs:=[Sl a1 h_.ae c1,Sl a2 h_.aq c2]) kr) (hS.cell (id:=4) (t:=3) (cs:=[I k_]) kr) ⟨by decide,by decide⟩) ?_)
 intro v114 a pV uB hE hp hS
 replace hO:=hO.m2 hE
 replace h1:=h1.m1 hE
 replace h2:=h2.m1 hE
 replace h113:=h113.m1 hE
 obtain ⟨ic,h8,hp,h120,sU,vB⟩:=hp
 obtain ⟨eN,hr⟩:∃ r,bS fu h_ k_=r:=⟨_,rfl⟩
 replace hm:=hm eN hr
 rw [hr] at hp h120
 clear hr
 subst hp
 replace hm:=hm (h120.sm kr)
 replace hS:=hS.cQ (id:=3) (t:=25) (cs:=[Sl a1 h_.ae c1,Sl a2 h_.aq c2]) kr sU
 replace hS:=hS.cQ (id:=4) (t:=3) (cs:=[I k_]) kr vB
 clear sU vB
 refine ePe T hS [29,30,31] [(7,Sl ic eN h8)] fun a hS=>?_
 refine bq ?_
 refine oP T hS 3 ⟨[(4,Pt 5 0),(7,Sl ic eN h8),(33,Sl a1 h_.ae c1),(34,I k_)],[(5,(51,[I 0,I 0,I 0,V (.slice none 0 0),V (.slice none 0 0)]))]⟩ fun a hS=>?_
 obtain ⟨hq,hm⟩:=hm
 refine op1 (index (e:=48) (k:=.i64) T hS kr kr kr kr h1 kr kr hq.1 hq.2 ?_)
 intro E8 a h124 hS
 refine op1 (eU T hS kr kr kr h124 kr kr ?_)
 intro v125 a hv hS
 obtain ⟨wz,wi,hv,h128⟩:=hv
 subst hv
 replace hm:=hm (h128.sm kr)
 refine eM T hS ⟨[(4,Pt 5 0),(7,Sl ic eN h8),(8,Pt 9 0)],[(5,(51,[I 0,I 0,I 0,V (.slice none 0 0),V (.slice none 0 0)])),(9,(48,(cO (gi h_.ae k_) wz wi)))]⟩ fun Z a zH x3 hS hE hr=>?_
 replace hO:=hO.m2 hE
 replace h120:=h120.m1 hE
 replace h128:=h128.m1 hE
 clear hE hr
 refine bq ?_
 refine oPe T hS 2 [] [(38,Sl wz ((gi h_.ae k_).Rows) wi)] fun a hS=>?_
 obtain ⟨hq,hm⟩:=hm
 refine op1 (call hS kr kr hb49 kr (fun _ _=>rfl) (L3 _ _ ((gi h_.ae k_).Rows) wz wi hq h128) ?_)
 intro v129 a uI Dl hE hp hS
 replace hO:=hO.m2 hE
 replace h120:=h120.m1 hE
 replace h128:=h128.m1 hE
 obtain ⟨r8,r6,hp,h135⟩:=hp
 obtain ⟨gI,hr⟩:∃ r,de ((gi h_.ae k_).Rows)=r:=⟨_,rfl⟩
 replace hm:=hm gI hr
 rw [hr] at hp h135
 clear hr
 subst hp
 replace hm:=hm (h135.sm kr)
 refine eM T hS ⟨[(4,Pt 5 0),(7,Sl ic eN h8),(8,Pt 9 0)],[(5,(51,[I 0,I 0,I 0,V (.slice none 0 0),V (.slice none 0 0)])),(9,(48,[I ((gi h_.ae k_).au),I ((gi h_.ae k_).az),I ((gi h_.ae k_).aH),Sl r8 gI r6]))]⟩ fun Z a Bq E3 hS hE hr=>?_
 replace hO:=hO.m2 hE
 replace h120:=h120.m1 hE
 replace h135:=h135.m1 hE
 clear hE hr
 refine rM T hS ⟨[(4,Pt 5 0)],[(5,(51,[I ((gi h_.ae k_).au),I ((gi h_.ae k_).az),I ((gi h_.ae k_).aH),Sl r8 gI r6,Sl ic eN h8]))]⟩ fun Z a tl wB hS hE hr=>?_
 replace hO:=hO.m2 hE
 replace h120:=h120.m1 hE
 replace h135:=h135.m1 hE
 clear hE hr
 refine aY ?_
 exact fin T hS hO (fun c=>c) rfl (r:=[.agg #[.int .i64 ((gi h_.ae k_).au),.int .i64 ((gi h_.ae k_).az),.int .i64 ((gi h_.ae k_).aH),.slice r8 gI.length r6,.slice ic eN.length h8]]) kr (fun X' hM hC=>⟨(⟨(⟨(gi h_.ae k_).au,(gi h_.ae k_).az,(gi h_.ae k_).aH,gI⟩:aj),eN⟩:fP),hm,r8,r6,ic,h8,rfl,h135.m0 hM,h120.m0 hM⟩)
theorem C17 (rY:S23) (xA:S46_48) (Cc:S47) (L3:S49) (v:∀ (h_:al) (k_:Int),yA h_ k_->VC17 h_ k_ (fun r=>r=eS h_ k_)):S17:=by
 intro w X h_ k_ a1 c1 a2 c2   hp h1 h2
 refine (W17 rY xA Cc L3 w X h_ k_ a1 c1 a2 c2   _ (v h_ k_ hp) h1 h2).mono ?_
 rintro _ _ _ _ ⟨r,rfl,h⟩
 exact h
theorem W24 (rY:S23) (Cc:S47) (LY:S56) (w0) (X0) (h_:al) (a1) (c1) (a2) (c2) (Q:(List ab) × (List Int)->Prop) (hm:VC24 h_ Q) (h1:RS aB w0 X0 a1 h_.ae c1) (h2:RS aP w0 X0 a2 h_.aq c2) :
  Ret Tryz.prog 24 #[.agg #[.slice a1 h_.ae.length c1,.slice a2 h_.aq.length c2]] aL w0 X0 (fun w X' v=>∃ r,Q r/\∃ cz cy jd jc,v=.tuple #[.slice cz r.1.length cy,.slice jd r.2.length jc]/\RS ar w X' cz r.1 cy/\RS tI w X' jd r.2 jc):=by
 unfold VC24 at hm
 replace hm:=hm (h1.sm kr)
 replace hm:=hm (h2.sm kr)
 refine enter Tryz.func24 rfl (vals:=[.agg #[.slice a1 h_.ae.length c1,.slice a2 h_.aq.length c2]]) kr ?_
 intro Z a hS hO hM
 replace h1:=h1.m0 hM
 replace h2:=h2.m0 hM
 refine rM T hS ⟨[(1,Pt 2 0)],[(2,(25,[Sl a1 h_.ae c1,Sl a2 h_.aq c2]))]⟩ fun Z a DR HC hS hE hr=>?_
 replace hO:=hO.m2 hE
 replace h1:=h1.m1 hE
 replace h2:=h2.m1 hE
 clear hE hr
 refine bg ?_
 refine bq ?_
 refine oPe T hS 1 [] [(12,V (.agg #[.slice a1 h_.ae.length c1,.slice a2 h_.aq.length c2]))] fun a hS=>?_
 obtain ⟨hq,hm⟩:=hm
 refine op1 (call hS kr kr hb23 kr (fun _ _=>rfl) (rY _ _ h_ a1 c1 a2 c2 hq h1 h2) ?_)
 intro v101 a fp fx hE hp hS
 replace hO:=hO.m2 hE
 replace h1:=h1.m1 hE
 replace h2:=h2.m1 hE
 obtain ⟨ax,hr⟩:∃ r,aE h_=r:=⟨_,rfl⟩
 replace hm:=hm ax hr
 rw [hr] at hp
 clear hr
 subst hp
 refine ePe T hS [12,13] [(5,I ax.2)] fun a hS=>?_
 refine rPe T hS [5] [(17,B (ax.2 != 0))] fun a hS=>?_
 refine aJ hS (b:=(ax.2 != 0)) kr (fun hb=>?_) fun hb=>?_
 ·replace hm:=hm.1 hb
  refine rP T hS ⟨[(2,V (.slice none 0 0)),(3,V (.slice none 0 0))],[]⟩ fun a hS=>?_
  refine aY ?_
  exact fin T hS hO (fun c=>c) rfl (r:=[.slice none 0 0,.slice none 0 0]) kr (fun X' hM hC=>⟨([],[]),hm,none,0,none,0,rfl,RS.empty _ _ _,RS.empty _ _ _⟩)
 replace hm:=hm.2 hb
 refine aM ?_
 refine bq ?_
 refine oPe T hS 1 [17] [(19,V (.agg #[.slice a1 h_.ae.length c1,.slice a2 h_.aq.length c2]))] fun a hS=>?_
 obtain ⟨hq,hm⟩:=hm
 refine op1 (call hS kr kr hb47 kr (fun _ _=>rfl) (Cc _ _ h_ a1 c1 a2 c2 hq h1 h2) ?_)
 intro v105 a ny m9 hE hp hS
 replace hO:=hO.m2 hE
 replace h1:=h1.m1 hE
 replace h2:=h2.m1 hE
 obtain ⟨cI,cH,hp,h111⟩:=hp
 obtain ⟨ba,hr⟩:∃ r,bT h_=r:=⟨_,rfl⟩
 replace hm:=hm ba hr
 rw [hr] at hp h111
 clear hr
 subst hp
 replace hm:=hm (h111.sm kr)
 refine op1 (call hS kr kr hb56 kr (fun _ _=>rfl) (LY _ _ ba cI cH h111) ?_)
 intro v112 a uM wC hE hp hS
 replace hO:=hO.m2 hE
 replace h1:=h1.m1 hE
 replace h2:=h2.m1 hE
 replace h111:=h111.m1 hE
 obtain ⟨dY,dX,hp,h118⟩:=hp
 obtain ⟨cY,hr⟩:∃ r,gL ba=r:=⟨_,rfl⟩
 replace hm:=hm cY hr
 rw [hr] at hp h118
 clear hr
 subst hp
 replace hm:=hm (h118.sm kr)
 refine ePe T hS [19,20,21] [(6,Sl dY cY.1 dX)] fun a hS=>?_
 refine rPe T hS [] [(8,V (.slice none 0 0))] fun a hS=>?_
 refine cb (fun a w=>∃ (Z:Nat->Nat) (X:Nat->Nat) (eI:List Int) (m8:Option Addr) (mZ:Nat),VC24_J1 Q cY eI/\St Tryz.f24.ntmps ⟨[(6,Sl dY cY.1 dX),(8,Sl m8 eI mZ)],[]⟩ Z a w X/\Old w0 X0 w X/\RS ar w X dY cY.1 dX/\OS tI 3 w X 1004 m8 eI mZ) ?_ ?_
 ·refine rPe T hS [] [(24,Sl dY cY.1 dX),(25,I (lN cY.1)),(26,I 0)] fun a hS=>?_
  refine aN ?_
  obtain ⟨I1,μ1,cx,hm⟩:=hm
  refine ct (σ:=(List Int) × Int) (fun s a w=>∃ Z X iH iG,I1 s.1 s.2/\St Tryz.f24.ntmps ⟨[(1,Pt 2 0),(6,Sl dY cY.1 dX),(8,Sl iH s.1 iG),(24,Sl dY cY.1 dX),(25,I (lN cY.1)),(26,I s.2)],[(2,(25,[Sl a1 h_.ae c1,Sl a2 h_.aq c2]))]⟩ Z a w X/\Old w0 X0 w X/\RS ar w X dY cY.1 dX/\OS tI 3 w X 1004 iH s.1 iG/\RS ar w X dY cY.1 dX/\RS aB w X a1 h_.ae c1/\RS aP w X a2 h_.aq c2) (fun s=>μ1 s.1 s.2) (⟨[],0⟩) ?_ ?_
  ·exact ⟨Z,_,none,0,cx,hS.sl _,hO,h118,(OS.nil _ _ _ _ _),h118,h1,h2⟩
  rintro ⟨c9,gM⟩ a Gd ⟨Z,NV,iH,iG,hI,hS,hO,h126,h130,h131,h133,h134⟩
  replace hm:=hm c9 gM hI
  clear hI cx
  refine rPe T hS [] [(27,B (decide (gM < (lN cY.1))))] fun a hS=>?_
  refine bg ?_
  refine aJ hS (b:=decide (gM < (lN cY.1))) kr (fun hb=>?_) fun hb=>?_
  ·replace hm:=hm.1 hb
   refine aM (bg ?_)
   refine aN ?_
   refine bq ?_
   obtain ⟨hq,hm⟩:=hm
   refine op1 (index (e:=102) (k:=.i64) T hS kr kr kr kr h131 kr kr hq.1 hq.2 ?_)
   intro Ks a h136 hS
   refine op1 (eU T hS kr kr kr h136 kr kr ?_)
   intro v137 a hv hS
   subst hv
   refine eM T hS ⟨[(1,Pt 2 0),(6,Sl dY cY.1 dX),(8,Sl iH c9 iG),(10,Pt 11 0),(24,Sl dY cY.1 dX),(25,I (lN cY.1)),(26,I gM)],[(2,(25,[Sl a1 h_.ae c1,Sl a2 h_.aq c2])),(11,(102,(cP (gi cY.1 gM))))]⟩ fun Z a Ge Ki hS hE hr=>?_
   replace hO:=hO.m2 hE
   replace h126:=h126.m1 hE
   replace h130:=h130.m2 hE
   replace h131:=h131.m1 hE
   replace h133:=h133.m1 hE
   replace h134:=h134.m1 hE
   clear hE hr
   refine region ?_
   refine oP T hS 5 ⟨[(1,Pt 2 0),(6,Sl dY cY.1 dX),(8,Sl iH c9 iG),(24,Sl dY cY.1 dX),(25,I (lN cY.1)),(26,I gM),(30,Sl iH c9 iG),(32,Sl a2 h_.aq c2),(34,I ((gi cY.1 gM).aI))],[(2,(25,[Sl a1 h_.ae c1,Sl a2 h_.aq c2]))]⟩ fun a hS=>?_
   obtain ⟨hq,hm⟩:=hm
   refine op1 (index (e:=63) (k:=.i64) T hS kr kr kr kr h134 kr kr hq.1 hq.2 ?_)
   intro HK a h139 hS
   refine op1 (fw (off:=0) (fsz:=1) (ft:=3) (TF:=tI) (y:=(gi h_.aq ((gi cY.1 gM).aI)).aA) T hS kr kr kr h139 kr kr kr (fun cs h=>kH h) ?_)
   intro HJ a h141 hS
   refine op1 (dW T hS kr kr kr h141 rfl kr ?_)
   intro v142 a hv hS
   cases hv
   refine op1 (lit (E:=3) (col:=0) (T:=tI) (vals:=[.int .i64 ((gi h_.aq ((gi cY.1 gM).aI)).aA)]) (ys:=[(gi h_.aq ((gi cY.1 gM).aI)).aA]) T hS kr kr kr kr (by exact ⟨rfl,trivial⟩) rfl kr kr kr kr ?_)
   intro b143 a Bp xZ hE h146 hN hS
   clear hN
   replace hO:=hO.m2 hE
   replace h126:=h126.m1 hE
   replace h130:=h130.m2 hE
   replace h131:=h131.m1 hE
   replace h133:=h133.m1 hE
   replace h134:=h134.m1 hE
   replace h139:=h139.m1 hE
   replace h141:=h141.m1 hE
   replace h146:=h146.rs0
   obtain ⟨hq,hm⟩:=hm
   obtain ⟨news,hN⟩:=h146.src
   refine op1 (append (E:=3) (T:=tI) (col:=1004) (xs:=c9) T hS kr kr kr kr h130 hN kr kr kr kr hq ?_)
   intro ux uq a wQ AY hE h149 hS
   clear hq hN
   clear h130
   replace hO:=hO.m2 hE
   replace h126:=h126.m1 hE
   replace h131:=h131.m1 hE
   replace h133:=h133.m1 hE
   replace h134:=h134.m1 hE
   replace h139:=h139.m1 hE
   replace h141:=h141.m1 hE
   replace h146:=h146.m1 hE
   refine ePe T hS [32,34,35,36,37,38,39] [(8,Sl ux (c9++[(gi h_.aq ((gi cY.1 gM).aI)).aA]) uq)] fun a hS=>?_
   refine region (ePe T hS [] [(26,I (wR (gM+1)))] fun a hS=>?_)
   exact ⟨⟨c9++[(gi h_.aq ((gi cY.1 gM).aI)).aA],wR (gM+1)⟩,⟨Z,_,ux,uq,hm.1,hS.sl _,hO,h126,h149,h131,h133,h134⟩,hm.2⟩
  replace hm:=hm.2 hb
  refine cm (by rfl) ?_
  exact ⟨Z,_,c9,iH,iG,hm,hS.sl _,hO,h126,h130⟩
 rintro a zG ⟨Z,Dj,eI,m8,mZ,hm,hS,hO,h119,h123⟩
 unfold VC24_J1 at hm
 refine rPe T hS [6,8] [(2,Sl dY cY.1 dX),(3,Sl m8 eI mZ)] fun a hS=>?_
 refine aY ?_
 obtain ⟨x5,hE,hF⟩:=h123.freeze (by decide)
 replace hS:=hS.ev hE (cA kr)
 replace hO:=hO.m2 hE
 replace h119:=h119.m1 hE
 have h125:=hF; clear hE hF
 exact fin T hS hO (fun c=>c) rfl (r:=[.slice dY cY.1.length dX,.slice m8 eI.length mZ]) kr (fun X' hM hC=>⟨(cY.1,eI),hm,dY,dX,m8,mZ,rfl,h119.m0 hM,h125.m0 hM⟩)
theorem C24 (rY:S23) (Cc:S47) (LY:S56) (v:∀ (h_:al),gl h_->VC24 h_ (fun r=>r=cN h_)):S24:=by
 intro w X h_ a1 c1 a2 c2   hp h1 h2
 refine (W24 rY Cc LY w X h_ a1 c1 a2 c2   _ (v h_ hp) h1 h2).mono ?_
 rintro _ _ _ _ ⟨r,rfl,h⟩
 exact h
theorem W16 (Mj:S18) (GS:S28) (GO:S45) (w0) (X0) (objects:List aj) (l_:List aG) (a1) (c1) (a2) (c2) (Q:(List ab) × (List Int)->Prop) (hm:VC16 objects l_ Q) (h1:RS aB w0 X0 a1 objects c1) (h2:RS bG w0 X0 a2 l_ c2) :
  Ret Tryz.prog 16 #[.slice a1 objects.length c1,.slice a2 l_.length c2] aL w0 X0 (fun w X' v=>∃ r,Q r/\∃ cz cy jd jc,v=.tuple #[.slice cz r.1.length cy,.slice jd r.2.length jc]/\RS ar w X' cz r.1 cy/\RS tI w X' jd r.2 jc):=by
 unfold VC16 at hm
 replace hm:=hm (h1.sm kr)
 replace hm:=hm (h2.sm kr)
 refine enter Tryz.func16 rfl (vals:=[.slice a1 objects.length c1,.slice a2 l_.length c2]) kr ?_
 intro Z a hS hO hM
 replace h1:=h1.m0 hM
 replace h2:=h2.m0 hM
 refine rPe T hS [] [] fun a hS=>?_
 refine bq ?_
 refine oPe T hS 2 [0] [(13,Sl a1 objects c1),(14,Sl a2 l_ c2)] fun a hS=>?_
 obtain ⟨hq,hm⟩:=hm
 refine op1 (call hS kr kr hb28 kr (fun _ _=>rfl) (GS _ _ objects l_ a1 c1 a2 c2 hq h1 h2) ?_)
 intro v101 a fp fx hE hp hS
 replace hO:=hO.m2 hE
 replace h1:=h1.m1 hE
 replace h2:=h2.m1 hE
 obtain ⟨ax,hr⟩:∃ r,dJ objects l_=r:=⟨_,rfl⟩
 replace hm:=hm ax hr
 rw [hr] at hp
 clear hr
 subst hp
 refine ePe T hS [13,14,15] [(7,I ax.2)] fun a hS=>?_
 refine bg ?_
 refine rPe T hS [7] [(19,B (ax.2 != 0))] fun a hS=>?_
 refine aJ hS (b:=(ax.2 != 0)) kr (fun hb=>?_) fun hb=>?_
 ·replace hm:=hm.1 hb
  refine rPe T hS [1,19] [(4,V (.slice none 0 0)),(5,V (.slice none 0 0))] fun a hS=>?_
  refine aY ?_
  exact fin T hS hO (fun c=>c) rfl (r:=[.slice none 0 0,.slice none 0 0]) kr (fun X' hM hC=>⟨([],[]),hm,none,0,none,0,rfl,RS.empty _ _ _,RS.empty _ _ _⟩)
 replace hm:=hm.2 hb
 refine aM ?_
 refine bq ?_
 refine oPe T hS 1 [19] [(21,Sl a2 l_ c2)] fun a hS=>?_
 obtain ⟨hq,hm⟩:=hm
 refine op1 (call hS kr kr hb45 kr (fun _ _=>rfl) (GO _ _ l_ a2 c2 hq h2) ?_)
 intro v105 a ny m9 hE hp hS
 replace hO:=hO.m2 hE
 replace h2:=h2.m1 hE
 obtain ⟨cI,cH,hp,h111⟩:=hp
 obtain ⟨ba,hr⟩:∃ r,cv l_=r:=⟨_,rfl⟩
 replace hm:=hm ba hr
 rw [hr] at hp h111
 clear hr
 subst hp
 replace hm:=hm (h111.sm kr)
 refine op1 (call hS kr kr hb18 kr (fun _ _=>rfl) (Mj _ _ ba cI cH h111) ?_)
 intro v112 a uM wC hE hp hS
 replace hO:=hO.m2 hE
 replace h2:=h2.m1 hE
 replace h111:=h111.m1 hE
 obtain ⟨dY,dX,hp,h118⟩:=hp
 obtain ⟨cY,hr⟩:∃ r,iS ba=r:=⟨_,rfl⟩
 replace hm:=hm cY hr
 rw [hr] at hp h118
 clear hr
 subst hp
 replace hm:=hm (h118.sm kr)
 refine ePe T hS [21,22,23] [(8,Sl dY cY.1 dX)] fun a hS=>?_
 refine rPe T hS [] [(10,V (.slice none 0 0))] fun a hS=>?_
 refine cb (fun a w=>∃ (Z:Nat->Nat) (X:Nat->Nat) (eI:List Int) (m8:Option Addr) (mZ:Nat),VC16_J1 Q cY eI/\St Tryz.f16.ntmps ⟨[(8,Sl dY cY.1 dX),(10,Sl m8 eI mZ)],[]⟩ Z a w X/\Old w0 X0 w X/\RS ar w X dY cY.1 dX/\OS tI 3 w X 1006 m8 eI mZ) ?_ ?_
 ·refine rPe T hS [] [(11,I 0)] fun a hS=>?_
  refine aN ?_
  obtain ⟨I1,μ1,cx,hm⟩:=hm
  refine ct (σ:=(List Int) × Int) (fun s a w=>∃ Z X lX lW,I1 s.1 s.2/\St Tryz.f16.ntmps ⟨[(1,Sl a2 l_ c2),(8,Sl dY cY.1 dX),(10,Sl lX s.1 lW),(11,I s.2)],[]⟩ Z a w X/\Old w0 X0 w X/\RS bG w X a2 l_ c2/\RS ar w X dY cY.1 dX/\OS tI 3 w X 1006 lX s.1 lW) (fun s=>μ1 s.1 s.2) (⟨[],0⟩) ?_ ?_
  ·exact ⟨Z,_,none,0,cx,hS.sl _,hO,h2,h118,(OS.nil _ _ _ _ _)⟩
  rintro ⟨fX,gM⟩ a Bm ⟨Z,xX,lX,lW,hI,hS,hO,h126,h127,h131⟩
  replace hm:=hm fX gM hI
  clear hI cx
  refine bg ?_
  refine rPe T hS [] [(29,B (decide (gM < (lN cY.1))))] fun a hS=>?_
  refine aJ hS (b:=decide (gM < (lN cY.1))) kr (fun hb=>?_) fun hb=>?_
  ·replace hm:=hm.1 hb
   refine aM (bg ?_)
   refine aN ?_
   refine region ?_
   refine oPe T hS 4 [29] [(32,Sl lX fX lW),(33,Sl a2 l_ c2),(34,Sl dY cY.1 dX),(35,I gM)] fun a hS=>?_
   obtain ⟨hq,hm⟩:=hm
   refine op1 (index (e:=102) (k:=.i64) T hS kr kr kr kr h127 kr kr hq.1 hq.2 ?_)
   intro N6 a h134 hS
   refine op1 (fw (off:=2) (fsz:=1) (ft:=3) (TF:=tI) (y:=(gi cY.1 gM).aI) T hS kr kr kr h134 kr kr kr (fun cs h=>pQ h) ?_)
   intro Ks a h136 hS
   refine op1 (dW T hS kr kr kr h136 rfl kr ?_)
   intro v137 a hv hS
   cases hv
   obtain ⟨hq,hm⟩:=hm
   refine op1 (index (e:=77) (k:=.i64) T hS kr kr kr kr h126 kr kr hq.1 hq.2 ?_)
   intro HK a h139 hS
   refine op1 (fw (off:=0) (fsz:=1) (ft:=3) (TF:=tI) (y:=(gi l_ ((gi cY.1 gM).aI)).aA) T hS kr kr kr h139 kr kr kr (fun cs h=>mF h) ?_)
   intro HJ a h141 hS
   refine op1 (dW T hS kr kr kr h141 rfl kr ?_)
   intro v142 a hv hS
   cases hv
   refine op1 (lit (E:=3) (col:=0) (T:=tI) (vals:=[.int .i64 ((gi l_ ((gi cY.1 gM).aI)).aA)]) (ys:=[(gi l_ ((gi cY.1 gM).aI)).aA]) T hS kr kr kr kr (by exact ⟨rfl,trivial⟩) rfl kr kr kr kr ?_)
   intro b143 a Bp xZ hE h146 hN hS
   clear hN
   replace hO:=hO.m2 hE
   replace h126:=h126.m1 hE
   replace h127:=h127.m1 hE
   replace h131:=h131.m2 hE
   replace h134:=h134.m1 hE
   replace h136:=h136.m1 hE
   replace h139:=h139.m1 hE
   replace h141:=h141.m1 hE
   replace h146:=h146.rs0
   obtain ⟨hq,hm⟩:=hm
   obtain ⟨news,hN⟩:=h146.src
   refine op1 (append (E:=3) (T:=tI) (col:=1006) (xs:=fX) T hS kr kr kr kr h131 hN kr kr kr kr hq ?_)
   intro ux uq a wQ AY hE h149 hS
   clear hq hN
   clear h131
   replace hO:=hO.m2 hE
   replace h126:=h126.m1 hE
   replace h127:=h127.m1 hE
   replace h134:=h134.m1 hE
   replace h136:=h136.m1 hE
   replace h139:=h139.m1 hE
   replace h141:=h141.m1 hE
   replace h146:=h146.m1 hE
   refine ePe T hS [33,34,35,36,37,38,39,40,41,42,43] [(10,Sl ux (fX++[(gi l_ ((gi cY.1 gM).aI)).aA]) uq)] fun a hS=>?_
   refine region (ePe T hS [] [(11,I (wR (gM+1)))] fun a hS=>?_)
   exact ⟨⟨fX++[(gi l_ ((gi cY.1 gM).aI)).aA],wR (gM+1)⟩,⟨Z,_,ux,uq,hm.1,hS.sl _,hO,h126,h127,h149⟩,hm.2⟩
  replace hm:=hm.2 hb
  refine cm (by rfl) ?_
  exact ⟨Z,_,fX,lX,lW,hm,hS.sl _,hO,h127,h131⟩
 rintro a Gd ⟨Z,NV,eI,m8,mZ,hm,hS,hO,h119,h123⟩
 unfold VC16_J1 at hm
 refine rPe T hS [8,10] [(4,Sl dY cY.1 dX),(5,Sl m8 eI mZ)] fun a hS=>?_
 refine aY ?_
 obtain ⟨x5,hE,hF⟩:=h123.freeze (by decide)
 replace hS:=hS.ev hE (cA kr)
 replace hO:=hO.m2 hE
 replace h119:=h119.m1 hE
 have h125:=hF; clear hE hF
 exact fin T hS hO (fun c=>c) rfl (r:=[.slice dY cY.1.length dX,.slice m8 eI.length mZ]) kr (fun X' hM hC=>⟨(cY.1,eI),hm,dY,dX,m8,mZ,rfl,h119.m0 hM,h125.m0 hM⟩)
theorem C16 (Mj:S18) (GS:S28) (GO:S45) (v:∀ (objects:List aj) (l_:List aG),k5 objects l_->VC16 objects l_ (fun r=>r=bf objects l_)):S16:=by
 intro w X objects l_ a1 c1 a2 c2   hp h1 h2
 refine (W16 Mj GS GO w X objects l_ a1 c1 a2 c2   _ (v objects l_ hp) h1 h2).mono ?_
 rintro _ _ _ _ ⟨r,rfl,h⟩
 exact h
theorem W41 (rY:S23) (Cd:S24) (w0) (X0) (h_:al) (a1) (c1) (a2) (c2) (Q:(List ab) × (List Int) × Int->Prop) (hm:VC41 h_ Q) (h1:RS aB w0 X0 a1 h_.ae c1) (h2:RS aP w0 X0 a2 h_.aq c2) :
  Ret Tryz.prog 41 #[.agg #[.slice a1 h_.ae.length c1,.slice a2 h_.aq.length c2]] aL w0 X0 (fun w X' v=>∃ r,Q r/\∃ cz cy jd jc,v=.tuple #[.slice cz r.1.length cy,.slice jd r.2.1.length jc,.int .i64 r.2.2]/\RS ar w X' cz r.1 cy/\RS tI w X' jd r.2.1 jc):=by
 unfold VC41 at hm
 replace hm:=hm (h1.sm kr)
 replace hm:=hm (h2.sm kr)
 refine enter Tryz.func41 rfl (vals:=[.agg #[.slice a1 h_.ae.length c1,.slice a2 h_.aq.length c2]]) kr ?_
 intro Z a hS hO hM
 replace h1:=h1.m0 hM
 replace h2:=h2.m0 hM
 refine rM T hS ⟨[(1,Pt 2 0)],[(2,(25,[Sl a1 h_.ae c1,Sl a2 h_.aq c2]))]⟩ fun Z a pV uB hS hE hr=>?_
 replace hO:=hO.m2 hE
 replace h1:=h1.m1 hE
 replace h2:=h2.m1 hE
 clear hE hr
 refine bg ?_
 refine bq ?_
 refine oPe T hS 1 [] [(10,V (.agg #[.slice a1 h_.ae.length c1,.slice a2 h_.aq.length c2]))] fun a hS=>?_
 obtain ⟨hq,hm⟩:=hm
 refine op1 (call hS kr kr hb23 kr (fun _ _=>rfl) (rY _ _ h_ a1 c1 a2 c2 hq h1 h2) ?_)
 intro v101 a fp fx hE hp hS
 replace hO:=hO.m2 hE
 replace h1:=h1.m1 hE
 replace h2:=h2.m1 hE
 obtain ⟨ax,hr⟩:∃ r,aE h_=r:=⟨_,rfl⟩
 replace hm:=hm ax hr
 rw [hr] at hp
 clear hr
 subst hp
 refine ePe T hS [10,11] [(6,I ax.2)] fun a hS=>?_
 refine rPe T hS [] [(15,B (ax.2 != 0))] fun a hS=>?_
 refine aJ hS (b:=(ax.2 != 0)) kr (fun hb=>?_) fun hb=>?_
 ·replace hm:=hm.1 hb
  refine rP T hS ⟨[(2,V (.slice none 0 0)),(3,V (.slice none 0 0)),(4,I ax.2)],[]⟩ fun a hS=>?_
  refine aY ?_
  exact fin T hS hO (fun c=>c) rfl (r:=[.slice none 0 0,.slice none 0 0,.int .i64 ax.2]) kr (fun X' hM hC=>⟨([],[],ax.2),hm,none,0,none,0,rfl,RS.empty _ _ _,RS.empty _ _ _⟩)
 replace hm:=hm.2 hb
 refine aM ?_
 refine bq ?_
 refine oP T hS 1 ⟨[(18,V (.agg #[.slice a1 h_.ae.length c1,.slice a2 h_.aq.length c2]))],[]⟩ fun a hS=>?_
 obtain ⟨hq,hm⟩:=hm
 refine op1 (call hS kr kr hb24 kr (fun _ _=>rfl) (Cd _ _ h_ a1 c1 a2 c2 hq h1 h2) ?_)
 intro v105 a ny m9 hE hp hS
 replace hO:=hO.m2 hE
 replace h1:=h1.m1 hE
 replace h2:=h2.m1 hE
 obtain ⟨cI,cH,g9,g7,hp,h111,h114⟩:=hp
 obtain ⟨ba,hr⟩:∃ r,cN h_=r:=⟨_,rfl⟩
 replace hm:=hm ba hr
 rw [hr] at hp h111 h114
 clear hr
 subst hp
 replace hm:=hm (h111.sm kr)
 replace hm:=hm (h114.sm kr)
 refine ePe T hS [18,19] [(7,Sl cI ba.1 cH),(8,Sl g9 ba.2 g7)] fun a hS=>?_
 refine bg ?_
 refine rPe T hS [] [(24,B (decide ((lN ba.1) > 20)))] fun a hS=>?_
 refine aJ hS (b:=decide ((lN ba.1) > 20)) kr (fun hb=>?_) fun hb=>?_
 ·replace hm:=hm.1 hb
  refine rPe T hS [7,8,24] [(2,V (.slice none 0 0)),(3,V (.slice none 0 0)),(4,I 3)] fun a hS=>?_
  refine aY ?_
  exact fin T hS hO (fun c=>c) rfl (r:=[.slice none 0 0,.slice none 0 0,.int .i64 3]) kr (fun X' hM hC=>⟨([],[],3),hm,none,0,none,0,rfl,RS.empty _ _ _,RS.empty _ _ _⟩)
 replace hm:=hm.2 hb
 refine aM ?_
 refine rPe T hS [7,8,24] [(2,Sl cI ba.1 cH),(3,Sl g9 ba.2 g7),(4,I 0)] fun a hS=>?_
 refine aY ?_
 exact fin T hS hO (fun c=>c) rfl (r:=[.slice cI ba.1.length cH,.slice g9 ba.2.length g7,.int .i64 0]) kr (fun X' hM hC=>⟨(ba.1,ba.2,0),hm,cI,cH,g9,g7,rfl,h111.m0 hM,h114.m0 hM⟩)
theorem C41 (rY:S23) (Cd:S24) (v:∀ (h_:al),gl h_->VC41 h_ (fun r=>r=cq h_)):S41:=by
 intro w X h_ a1 c1 a2 c2   hp h1 h2
 refine (W41 rY Cd w X h_ a1 c1 a2 c2   _ (v h_ hp) h1 h2).mono ?_
 rintro _ _ _ _ ⟨r,rfl,h⟩
 exact h
theorem W69 (w0) (X0) (of:List Int) (k_:Int) (a1) (c1) (Q:(List Int)->Prop) (hm:VC69 of k_ Q) (h1:RS tI w0 X0 a1 of c1) :
  Ret Tryz.prog 69 #[.slice a1 of.length c1,.int .i64 k_] aL w0 X0 (fun w X' v=>∃ r,Q r/\∃ cz cy,v=.slice cz r.length cy/\RS tI w X' cz r cy):=by
 unfold VC69 at hm
 replace hm:=hm (h1.sm kr)
 refine enter Tryz.func69 rfl (vals:=[.slice a1 of.length c1,.int .i64 k_]) kr ?_
 intro Z a hS hO hM
 replace h1:=h1.m0 hM
 refine rPe T hS [] [] fun a hS=>?_
 refine rPe T hS [] [(5,V (.slice none 0 0))] fun a hS=>?_
 refine cb (fun a w=>∃ (Z:Nat->Nat) (X:Nat->Nat) (bE:List Int) (dy:Option Addr) (dx:Nat),VC69_J1 Q bE/\St Tryz.f69.ntmps ⟨[(5,Sl dy bE dx)],[]⟩ Z a w X/\Old w0 X0 w X/\OS tI 3 w X 1005 dy bE dx) ?_ ?_
 ·refine rPe T hS [0] [(8,Sl a1 of c1),(9,I (lN of)),(10,I 0)] fun a hS=>?_
  refine aN ?_
  obtain ⟨I1,μ1,cx,hm⟩:=hm
  refine ct (σ:=(List Int) × Int) (fun s a w=>∃ Z X gQ gP,I1 s.1 s.2/\St Tryz.f69.ntmps ⟨[(1,I k_),(5,Sl gQ s.1 gP),(8,Sl a1 of c1),(9,I (lN of)),(10,I s.2)],[]⟩ Z a w X/\Old w0 X0 w X/\OS tI 3 w X 1005 gQ s.1 gP/\RS tI w X a1 of c1) (fun s=>μ1 s.1 s.2) (⟨[],0⟩) ?_ ?_
  ·exact ⟨Z,_,none,0,cx,hS.sl _,hO,(OS.nil _ _ _ _ _),h1⟩
  rintro ⟨gS,db⟩ a zI ⟨Z,pq,gQ,gP,hI,hS,hO,h110,h111⟩
  replace hm:=hm gS db hI
  clear hI cx
  refine rPe T hS [] [(11,B (decide (db < (lN of))))] fun a hS=>?_
  refine bg ?_
  refine aJ hS (b:=decide (db < (lN of))) kr (fun hb=>?_) fun hb=>?_
  ·replace hm:=hm.1 hb
   refine aM ?_
   refine cb (fun a w=>∃ (Z:Nat->Nat) (X:Nat->Nat) (bh:List Int) (mh:Option Addr) (mg:Nat),VC69_J2 I1 μ1 gS db bh/\St Tryz.f69.ntmps ⟨[(1,I k_),(5,Sl mh bh mg),(8,Sl a1 of c1),(9,I (lN of)),(10,I db)],[]⟩ Z a w X/\Old w0 X0 w X/\OS tI 3 w X 1005 mh bh mg/\RS tI w X a1 of c1) ?_ ?_
   ·refine aN ?_
    refine bq ?_
    refine oPe T hS 1 [11] [(12,I db)] fun a hS=>?_
    obtain ⟨hq,hm⟩:=hm
    refine op1 (index (e:=3) (k:=.i64) T hS kr kr kr kr h111 kr kr hq.1 hq.2 ?_)
    intro HN a h119 hS
    refine op1 (dW T hS kr kr kr h119 rfl kr ?_)
    intro v120 a hv hS
    cases hv
    refine ePe T hS [12,13,14] [(6,I db),(7,I (gi of db))] fun a hS=>?_
    refine rPe T hS [7] [(17,B ((gi of db) == k_))] fun a hS=>?_
    refine aJ hS (b:=((gi of db) == k_)) kr (fun hb=>?_) fun hb=>?_
    ·replace hm:=hm.1 hb
     refine region ?_
     refine oPe T hS 2 [6,17] [(18,Sl gQ gS gP),(19,I db)] fun a hS=>?_
     refine op1 (lit (E:=3) (col:=0) (T:=tI) (vals:=[.int .i64 db]) (ys:=[db]) T hS kr kr kr kr (by exact ⟨rfl,trivial⟩) rfl kr kr kr kr ?_)
     intro b121 a uK uA hE h124 hN hS
     clear hN
     replace hO:=hO.m2 hE
     replace h110:=h110.m2 hE
     replace h111:=h111.m1 hE
     replace h124:=h124.rs0
     obtain ⟨hq,hm⟩:=hm
     obtain ⟨news,hN⟩:=h124.src
     refine op1 (append (E:=3) (T:=tI) (col:=1005) (xs:=gS) T hS kr kr kr kr h110 hN kr kr kr kr hq ?_)
     intro iH iG a zJ x4 hE h127 hS
     clear hq hN
     clear h110
     replace hO:=hO.m2 hE
     replace h111:=h111.m1 hE
     replace h124:=h124.m1 hE
     refine ePe T hS [19,20,21] [(5,Sl iH (gS++[db]) iG)] fun a hS=>?_
     exact ⟨Z,_,gS++[db],iH,iG,hm,hS.sl _,hO,h127,h111⟩
    replace hm:=hm.2 hb
    refine aM ?_
    exact ⟨Z,_,gS,gQ,gP,hm,hS.sl _,hO,h110,h111⟩
   rintro a pU ⟨Z,E4,bh,mh,mg,hm,hS,hO,h116,h117⟩
   unfold VC69_J2 at hm
   refine region (ePe T hS [] [(10,I (wR (db+1)))] fun a hS=>?_)
   exact ⟨⟨bh,wR (db+1)⟩,⟨Z,_,mh,mg,hm.1,hS.sl _,hO,h116,h117⟩,hm.2⟩
  replace hm:=hm.2 hb
  refine cm (by rfl) ?_
  exact ⟨Z,_,gS,gQ,gP,hm,hS.sl _,hO,h110⟩
 rintro a DU ⟨Z,Dk,bE,dy,dx,hm,hS,hO,h104⟩
 unfold VC69_J1 at hm
 refine rPe T hS [5] [(4,Sl dy bE dx)] fun a hS=>?_
 refine aY ?_
 obtain ⟨pt,hE,hF⟩:=h104.freeze (by decide)
 replace hS:=hS.ev hE (cA kr)
 replace hO:=hO.m2 hE
 have h106:=hF; clear hE hF
 exact fin T hS hO (fun c=>c) rfl (r:=[.slice dy bE.length dx]) kr (fun X' hM hC=>⟨bE,hm,dy,dx,rfl,h106.m0 hM⟩)
theorem C69 (v:∀ (of:List Int) (k_:Int),sw of k_->VC69 of k_ (fun r=>r=aS of k_)):S69:=by
 intro w X of k_ a1 c1   hp h1
 refine (W69 w X of k_ a1 c1   _ (v of k_ hp) h1).mono ?_
 rintro _ _ _ _ ⟨r,rfl,h⟩
 exact h
theorem W72 (w0) (X0) (i_:Int) (ao:List Int) (ay:Int) (a1) (c1) (b1) (i1) (b2) (i2) (Q:Bool->Prop) (hm:VC72 i_ ao ay Q) (h1:RS tI w0 X0 a1 ao c1) (fB:Cell w0 X0 b1 i1 43 [.slice a1 ao.length c1]) (gO:Cell w0 X0 b2 i2 3 [.int .i64 ay]) (hA:dZ [i1,i2]) :
  Ret Tryz.prog 72 #[.int .i64 i_,.pointer (some ⟨b1,0,none⟩),.pointer (some ⟨b2,0,none⟩)] (pR [i1,i2]) w0 X0 (fun w X' v=>∃ r,Q r/\v=.bool r/\Cell w X' b1 i1 43 [.slice a1 ao.length c1]/\Cell w X' b2 i2 3 [.int .i64 ay]):=by
 unfold VC72 at hm
 replace hm:=hm (h1.sm kr)
 refine fO Tryz.func72 rfl (dL [(i1,901),(i2,902)]) (fun id=>(bif Nat.beq id 901 then b1 else (bif Nat.beq id 902 then b2 else 0))) (args:=[I i_,Pt 901 0,Pt 902 0]) (bxs:=[(901,(43,[Sl a1 ao c1])),(902,(3,[I ay]))]) kr rfl (bu.cons kr (fB.map (bQ 0 hA.1 rfl)) (bu.cons kr (gO.map (bQ 1 hA.1 rfl)) bu.nil)) (fD (fun q hq=>(hA.2 q.1 (List.mem_map.2 ⟨q,hq,rfl⟩)).1)) ?_
 intro a hS hO hM
 have hP:Pin [(901,b1),(902,b2)] (fun id=>(bif Nat.beq id 901 then b1 else (bif Nat.beq id 902 then b2 else 0))):=by intro q hq; simp at hq; rcases hq with rfl | rfl <;> rfl
 generalize (fun id=>(bif Nat.beq id 901 then b1 else (bif Nat.beq id 902 then b2 else 0)))=Z at hS hP
 clear fB gO
 replace h1:=h1.m0 hM
 refine rPe T hS [] [] fun a hS=>?_
 refine dG [901,902] mixed hS ?_
 intro oO pw hS hE hD hH
 replace hO:=hO.m2 hE
 replace h1:=h1.m1 hE
 refine tke T [0,1,4] [901,902] hS hH #[true,true,false,false,true,false,false] 4 [0,1,2] [(5,Sl a1 ao c1),(6,I i_),(9,I ay)] fun a hS=>?_
 obtain ⟨hq,hm⟩:=hm
 refine dm (e:=3) (k:=.i64) T 2 hS kr kr kr (by rfl) kr hH kr kr h1 kr kr hq.1 hq.2 ?_
 intro uE a h104 hS
 have vK:=h104.here
 refine eu T 3 hS kr kr kr (by rfl) kr hH kr h104 vK rfl kr ?_
 intro v105 a hv hS
 cases hv
 refine tke T [5,6] [901,902] hS hH (tts 7) 0 [5,6,9,7,8] [(4,B ((gi ao i_) == ay))] fun a hS=>?_
 refine aX kr ?_
 replace hS:=hS.sle [] []
 refine aY ?_
 exact gW T hS hO (fun c h=>b0 kr h) (fun c h=>b5 (l:=[(i1,901),(i2,902)]) h) (bU [(i1,901),(i2,902)]) rfl (r:=[.bool ((gi ao i_) == ay)]) kr (fun X' hM hC=>⟨((gi ao i_) == ay),hm,rfl,((hS.cell (id:=901) (t:=43) (cs:=[Sl a1 ao c1]) kr).out (f:=(bU [(i1,901),(i2,902)])) hC kr kr (hP.at 0 rfl)),((hS.cell (id:=902) (t:=3) (cs:=[I ay]) kr).out (f:=(bU [(i1,901),(i2,902)])) hC kr kr (hP.at 1 rfl))⟩)
theorem C72 (v:∀ (i_:Int) (ao:List Int) (ay:Int),tK i_ ao ay->VC72 i_ ao ay (fun r=>r=dM i_ ao ay)):S72:=by
 intro w X i_ ao ay a1 c1  b1 i1 b2 i2 hp h1 fB gO hA
 refine (W72 w X i_ ao ay a1 c1  b1 i1 b2 i2 _ (v i_ ao ay hp) h1 fB gO hA).mono ?_
 rintro _ _ _ _ ⟨r,rfl,h⟩
 exact h
theorem W71_72 (LO:S72) (w0) (X0) (l_:List ab) (ao:List Int) (ay:Int) (a1) (c1) (a2) (c2) (b1) (i1) (b2) (i2) (Q:(List ab)->Prop) (hm:VC71_72 l_ ao ay Q) (h1:RS ar w0 X0 a1 l_ c1) (h2:RS tI w0 X0 a2 ao c2) (fB:Cell w0 X0 b1 i1 43 [.slice a2 ao.length c2]) (gO:Cell w0 X0 b2 i2 3 [.int .i64 ay]) (hA:dZ [i1,i2]) :
  Ret Tryz.prog 71 #[.slice a1 l_.length c1,.func (.func 72) #[] #[.pointer (some ⟨b1,0,none⟩),.pointer (some ⟨b2,0,none⟩)]] (pR [i1,i2]) w0 X0 (fun w X' v=>∃ r,Q r/\∃ cz cy,v=.slice cz r.length cy/\RS ar w X' cz r cy/\Cell w X' b1 i1 43 [.slice a2 ao.length c2]/\Cell w X' b2 i2 3 [.int .i64 ay]):=by
 unfold VC71_72 at hm
 replace hm:=hm (h1.sm kr)
 replace hm:=hm (h2.sm kr)
 refine fO Tryz.func71 rfl (dL [(i1,901),(i2,902)]) (fun id=>(bif Nat.beq id 901 then b1 else (bif Nat.beq id 902 then b2 else 0))) (args:=[Sl a1 l_ c1,.f (.func 72) [] [.p 901 0,.p 902 0]]) (bxs:=[(901,(43,[Sl a2 ao c2])),(902,(3,[I ay]))]) kr rfl (bu.cons kr (fB.map (bQ 0 hA.1 rfl)) (bu.cons kr (gO.map (bQ 1 hA.1 rfl)) bu.nil)) (fD (fun q hq=>(hA.2 q.1 (List.mem_map.2 ⟨q,hq,rfl⟩)).1)) ?_
 intro a hS hO hM
 have hP:Pin [(901,b1),(902,b2)] (fun id=>(bif Nat.beq id 901 then b1 else (bif Nat.beq id 902 then b2 else 0))):=by intro q hq; simp at hq; rcases hq with rfl | rfl <;> rfl
 generalize (fun id=>(bif Nat.beq id 901 then b1 else (bif Nat.beq id 902 then b2 else 0)))=Z at hS hP
 clear fB gO
 replace h1:=h1.m0 hM
 replace h2:=h2.m0 hM
 refine rPe T hS [] [] fun a hS=>?_
 refine rPe T hS [] [(5,V (.slice none 0 0))] fun a hS=>?_
 refine cb (fun a w=>∃ (Z:Nat->Nat) (X:Nat->Nat) (bE:List ab) (dy:Option Addr) (dx:Nat),VC71_72_J1 Q bE/\St Tryz.f71.ntmps ⟨[(5,Sl dy bE dx)],[(901,(43,[Sl a2 ao c2])),(902,(3,[I ay]))]⟩ Z a w X/\gj (dL [(i1,901),(i2,902)]) w0 X0 w X/\Pin [(901,b1),(902,b2)] Z/\OS ar 102 w X 1005 dy bE dx/\RS tI w X a2 ao c2) ?_ ?_
 ·refine rPe T hS [0] [(8,Sl a1 l_ c1),(9,I (lN l_)),(10,I 0)] fun a hS=>?_
  refine aN ?_
  obtain ⟨I1,μ1,cx,hm⟩:=hm
  refine ct (σ:=(List ab) × Int) (fun s a w=>∃ Z X cI cH,I1 s.1 s.2/\St Tryz.f71.ntmps ⟨[(1,.f (.func 72) [] [.p 901 0,.p 902 0]),(5,Sl cI s.1 cH),(8,Sl a1 l_ c1),(9,I (lN l_)),(10,I s.2)],[(901,(43,[Sl a2 ao c2])),(902,(3,[I ay]))]⟩ Z a w X/\gj (dL [(i1,901),(i2,902)]) w0 X0 w X/\Pin [(901,b1),(902,b2)] Z/\OS ar 102 w X 1005 cI s.1 cH/\RS ar w X a1 l_ c1/\RS tI w X a2 ao c2) (fun s=>μ1 s.1 s.2) (⟨[],0⟩) ?_ ?_
  ·exact ⟨Z,_,none,0,cx,hS.sl _,hO,hP,(OS.nil _ _ _ _ _),h1,h2⟩
  rintro ⟨dD,bh⟩ a Bp ⟨Z,sa,cI,cH,hI,hS,hO,hP,h111,h112,h114⟩
  replace hm:=hm dD bh hI
  clear hI cx
  refine rPe T hS [] [(11,B (decide (bh < (lN l_))))] fun a hS=>?_
  refine bg ?_
  refine aJ hS (b:=decide (bh < (lN l_))) kr (fun hb=>?_) fun hb=>?_
  ·replace hm:=hm.1 hb
   refine aM ?_
   refine cb (fun a w=>∃ (Z:Nat->Nat) (X:Nat->Nat) (bw:List ab) (dY:Option Addr) (dX:Nat),VC71_72_J2 I1 μ1 dD bh bw/\St Tryz.f71.ntmps ⟨[(1,.f (.func 72) [] [.p 901 0,.p 902 0]),(5,Sl dY bw dX),(8,Sl a1 l_ c1),(9,I (lN l_)),(10,I bh)],[(901,(43,[Sl a2 ao c2])),(902,(3,[I ay]))]⟩ Z a w X/\gj (dL [(i1,901),(i2,902)]) w0 X0 w X/\Pin [(901,b1),(902,b2)] Z/\OS ar 102 w X 1005 dY bw dX/\RS ar w X a1 l_ c1/\RS tI w X a2 ao c2) ?_ ?_
   ·refine aN ?_
    refine bq ?_
    refine oPe T hS 1 [11] [(12,I bh)] fun a hS=>?_
    obtain ⟨hq,hm⟩:=hm
    refine op1 (index (e:=102) (k:=.i64) T hS kr kr kr kr h112 kr kr hq.1 hq.2 ?_)
    intro HM a h122 hS
    refine op1 (eU T hS kr kr kr h122 kr kr ?_)
    intro v123 a hv hS
    subst hv
    refine eM T hS ⟨[(1,.f (.func 72) [] [.p 901 0,.p 902 0]),(5,Sl cI dD cH),(6,I bh),(7,Pt 8 0),(8,Sl a1 l_ c1),(9,I (lN l_)),(10,I bh)],[(8,(102,(cP (gi l_ bh)))),(901,(43,[Sl a2 ao c2])),(902,(3,[I ay]))]⟩ fun Z a tj wA hS hE hr=>?_
    replace hO:=hO.m2 hE
    replace h111:=h111.m2 hE
    replace h112:=h112.m1 hE
    replace h114:=h114.m1 hE
    replace hP:=hP.mv hr kr
    clear hE hr
    refine bq ?_
    refine oPe T hS 2 [6] [(15,.f (.func 72) [] [.p 901 0,.p 902 0]),(16,I bh)] fun a hS=>?_
    obtain ⟨hq,hm⟩:=hm
    refine op1 (kx (fi:=[]) (cp:=[.p 901 0,.p 902 0]) hS kr kr hb72 kr kr (LO _ _ bh ao ay a2 c2 (Z 901) 901 (Z 902) 902 hq h114 (hS.cell (id:=901) (t:=43) (cs:=[Sl a2 ao c2]) kr) (hS.cell (id:=902) (t:=3) (cs:=[I ay]) kr) ⟨by decide,by decide⟩) ?_)
    intro v124 a zJ x4 hE hp hS
    replace hO:=hO.m2 hE
    replace h111:=h111.m2 hE
    replace h112:=h112.m1 hE
    replace h114:=h114.m1 hE
    obtain ⟨hp,FL,vA⟩:=hp
    obtain ⟨z5,hr⟩:∃ r,dM bh ao ay=r:=⟨_,rfl⟩
    replace hm:=hm z5 hr
    rw [hr] at hp
    clear hr
    subst hp
    replace hS:=hS.cQ (id:=901) (t:=43) (cs:=[Sl a2 ao c2]) kr FL
    replace hS:=hS.cQ (id:=902) (t:=3) (cs:=[I ay]) kr vA
    clear FL vA
    refine gY ?_
    refine aJ hS (b:=z5) kr (fun hb=>?_) fun hb=>?_
    ·replace hm:=hm.1 hb
     refine region ?_
     refine oP T hS 2 ⟨[(1,.f (.func 72) [] [.p 901 0,.p 902 0]),(5,Sl cI dD cH),(8,Sl a1 l_ c1),(9,I (lN l_)),(10,I bh),(18,Sl cI dD cH),(19,V (.agg #[.int .i64 ((gi l_ bh).ak),.int .i64 ((gi l_ bh).Kind),.int .i64 ((gi l_ bh).aI),.int .i64 ((gi l_ bh).End),.int .i64 ((gi l_ bh).Result)]))],[(901,(43,[Sl a2 ao c2])),(902,(3,[I ay]))]⟩ fun a hS=>?_
     refine op1 (lit (E:=102) (col:=0) (T:=ar) (vals:=[.agg #[.int .i64 ((gi l_ bh).ak),.int .i64 ((gi l_ bh).Kind),.int .i64 ((gi l_ bh).aI),.int .i64 ((gi l_ bh).End),.int .i64 ((gi l_ bh).Result)]]) (ys:=[(gi l_ bh)]) T hS kr kr kr kr (by exact ⟨rfl,trivial⟩) rfl kr kr kr kr ?_)
     intro b130 a pU pq hE h133 hN hS
     clear hN
     replace hO:=hO.m2 hE
     replace h111:=h111.m2 hE
     replace h112:=h112.m1 hE
     replace h114:=h114.m1 hE
     replace h133:=h133.rs0
     obtain ⟨hq,hm⟩:=hm
     obtain ⟨news,hN⟩:=h133.src
     refine op1 (append (E:=102) (T:=ar) (col:=1005) (xs:=dD) T hS kr kr kr kr h111 hN kr kr kr kr hq ?_)
     intro J4 JP a uH uz hE h136 hS
     clear hq hN
     clear h111
     replace hO:=hO.m2 hE
     replace h112:=h112.m1 hE
     replace h114:=h114.m1 hE
     replace h133:=h133.m1 hE
     refine ePe T hS [19,20,21] [(5,Sl J4 (dD++[(gi l_ bh)]) JP)] fun a hS=>?_
     exact ⟨Z,_,dD++[(gi l_ bh)],J4,JP,hm,hS.sl _,hO,hP,h136,h112,h114⟩
    replace hm:=hm.2 hb
    refine aM ?_
    exact ⟨Z,_,dD,cI,cH,hm,hS.sl _,hO,hP,h111,h112,h114⟩
   rintro a qn ⟨Z,x3,bw,dY,dX,hm,hS,hO,hP,h118,h119,h120⟩
   unfold VC71_72_J2 at hm
   refine region (ePe T hS [] [(10,I (wR (bh+1)))] fun a hS=>?_)
   exact ⟨⟨bw,wR (bh+1)⟩,⟨Z,_,dY,dX,hm.1,hS.sl _,hO,hP,h118,h119,h120⟩,hm.2⟩
  replace hm:=hm.2 hb
  refine cm (by rfl) ?_
  exact ⟨Z,_,dD,cI,cH,hm,hS.sl _,hO,hP,h111,h114⟩
 rintro a DS ⟨Z,xZ,bE,dy,dx,hm,hS,hO,hP,h104,h105⟩
 unfold VC71_72_J1 at hm
 refine rPe T hS [5] [(4,Sl dy bE dx)] fun a hS=>?_
 refine aY ?_
 obtain ⟨mi,hE,hF⟩:=h104.freeze (by decide)
 replace hS:=hS.ev hE (cA kr)
 replace hO:=hO.m2 hE
 replace h105:=h105.m1 hE
 have h107:=hF; clear hE hF
 exact gW T hS hO (fun c h=>b0 kr h) (fun c h=>b5 (l:=[(i1,901),(i2,902)]) h) (bU [(i1,901),(i2,902)]) rfl (r:=[.slice dy bE.length dx]) kr (fun X' hM hC=>⟨bE,hm,dy,dx,rfl,h107.m0 hM,((hS.cell (id:=901) (t:=43) (cs:=[Sl a2 ao c2]) kr).out (f:=(bU [(i1,901),(i2,902)])) hC kr kr (hP.at 0 rfl)),((hS.cell (id:=902) (t:=3) (cs:=[I ay]) kr).out (f:=(bU [(i1,901),(i2,902)])) hC kr kr (hP.at 1 rfl))⟩)
theorem C71_72 (LO:S72) (v:∀ (l_:List ab) (ao:List Int) (ay:Int),yr l_ ao ay->VC71_72 l_ ao ay (fun r=>r=bI l_ ao ay)):S71_72:=by
 intro w X l_ ao ay a1 c1 a2 c2  b1 i1 b2 i2 hp h1 h2 fB gO hA
 refine (W71_72 LO w X l_ ao ay a1 c1 a2 c2  b1 i1 b2 i2 _ (v l_ ao ay hp) h1 h2 fB gO hA).mono ?_
 rintro _ _ _ _ ⟨r,rfl,h⟩
 exact h
theorem W42 (LQ:S69) (LP:S70) (xx:S71_72) (w0) (X0) (h_:al) (l_:List ab) (of:List Int) (a1) (c1) (a2) (c2) (a3) (c3) (a4) (c4) (Q:(List (List aa)) × Int->Prop) (hm:VC42 h_ l_ of Q) (h1:RS aB w0 X0 a1 h_.ae c1) (h2:RS aP w0 X0 a2 h_.aq c2) (h3:RS ar w0 X0 a3 l_ c3) (h4:RS tI w0 X0 a4 of c4) :
  Ret Tryz.prog 42 #[.agg #[.slice a1 h_.ae.length c1,.slice a2 h_.aq.length c2],.slice a3 l_.length c3,.slice a4 of.length c4] aL w0 X0 (fun w X' v=>∃ r,Q r/\∃ cz cy,v=.tuple #[.slice cz r.1.length cy,.int .i64 r.2]/\RS (cd av) w X' cz r.1 cy):=by
 unfold VC42 at hm
 replace hm:=hm (h1.sm kr)
 replace hm:=hm (h2.sm kr)
 replace hm:=hm (h3.sm kr)
 replace hm:=hm (h4.sm kr)
 refine enter Tryz.func42 rfl (vals:=[.agg #[.slice a1 h_.ae.length c1,.slice a2 h_.aq.length c2],.slice a3 l_.length c3,.slice a4 of.length c4]) kr ?_
 intro Z a hS hO hM
 replace h1:=h1.m0 hM
 replace h2:=h2.m0 hM
 replace h3:=h3.m0 hM
 replace h4:=h4.m0 hM
 refine rM T hS ⟨[(1,Sl a3 l_ c3),(3,Pt 4 0),(5,Pt 6 0)],[(4,(25,[Sl a1 h_.ae c1,Sl a2 h_.aq c2])),(6,(43,[Sl a4 of c4]))]⟩ fun Z a Pz RQ hS hE hr=>?_
 replace hO:=hO.m2 hE
 replace h1:=h1.m1 hE
 replace h2:=h2.m1 hE
 replace h3:=h3.m1 hE
 replace h4:=h4.m1 hE
 clear hE hr
 refine rP T hS ⟨[(1,Sl a3 l_ c3),(3,Pt 4 0),(5,Pt 6 0),(8,V (.slice none 0 0))],[(4,(25,[Sl a1 h_.ae c1,Sl a2 h_.aq c2])),(6,(43,[Sl a4 of c4]))]⟩ fun a hS=>?_
 refine cb (fun a w=>∃ (Z:Nat->Nat) (X:Nat->Nat) (bE:List (List aa)) (dy:Option Addr) (dx:Nat),VC42_J1 Q bE/\St Tryz.f42.ntmps ⟨[(8,Sl dy bE dx)],[]⟩ Z a w X/\Old w0 X0 w X/\OS (cd av) 26 w X 1007 dy bE dx) ?_ ?_
 ·refine rP T hS ⟨[(1,Sl a3 l_ c3),(5,Pt 6 0),(8,V (.slice none 0 0)),(17,Sl a1 h_.ae c1),(18,I (lN h_.ae)),(19,I 0)],[(6,(43,[Sl a4 of c4]))]⟩ fun a hS=>?_
  refine aN ?_
  obtain ⟨I1,μ1,cx,hm⟩:=hm
  refine ct (σ:=(List (List aa)) × Int) (fun s a w=>∃ Z X cI cH,I1 s.1 s.2/\St Tryz.f42.ntmps ⟨[(1,Sl a3 l_ c3),(5,Pt 6 0),(8,Sl cI s.1 cH),(17,Sl a1 h_.ae c1),(18,I (lN h_.ae)),(19,I s.2)],[(6,(43,[Sl a4 of c4]))]⟩ Z a w X/\Old w0 X0 w X/\RS ar w X a3 l_ c3/\OS (cd av) 26 w X 1007 cI s.1 cH/\RS aB w X a1 h_.ae c1/\RS tI w X a4 of c4) (fun s=>μ1 s.1 s.2) (⟨[],0⟩) ?_ ?_
  ·exact ⟨Z,_,none,0,cx,hS.sl _,hO,h3,(OS.nil _ _ _ _ _),h1,h4⟩
  rintro ⟨dD,bh⟩ a H7 ⟨Z,Hx,cI,cH,hI,hS,hO,h107,h111,h112,h114⟩
  replace hm:=hm dD bh hI
  clear hI cx
  refine rP T hS ⟨[(1,Sl a3 l_ c3),(5,Pt 6 0),(8,Sl cI dD cH),(17,Sl a1 h_.ae c1),(18,I (lN h_.ae)),(19,I bh),(20,B (decide (bh < (lN h_.ae))))],[(6,(43,[Sl a4 of c4]))]⟩ fun a hS=>?_
  refine bg ?_
  refine aJ hS (b:=decide (bh < (lN h_.ae))) kr (fun hb=>?_) fun hb=>?_
  ·replace hm:=hm.1 hb
   refine aM (bg ?_)
   refine aN ?_
   refine bq ?_
   refine oP T hS 1 ⟨[(1,Sl a3 l_ c3),(5,Pt 6 0),(8,Sl cI dD cH),(17,Sl a1 h_.ae c1),(18,I (lN h_.ae)),(19,I bh),(21,I bh)],[(6,(43,[Sl a4 of c4]))]⟩ fun a hS=>?_
   obtain ⟨hq,hm⟩:=hm
   refine op1 (index (e:=48) (k:=.i64) T hS kr kr kr kr h112 kr kr hq.1 hq.2 ?_)
   intro Oc a h116 hS
   refine op1 (eU T hS kr kr kr h116 kr kr ?_)
   intro v117 a hv hS
   obtain ⟨ic,h8,hv,h120⟩:=hv
   subst hv
   replace hm:=hm (h120.sm kr)
   refine eM T hS ⟨[(1,Sl a3 l_ c3),(5,Pt 6 0),(8,Sl cI dD cH),(9,Pt 10 0),(10,Pt 11 0),(17,Sl a1 h_.ae c1),(18,I (lN h_.ae)),(19,I bh)],[(6,(43,[Sl a4 of c4])),(10,(3,[I bh])),(11,(48,(cO (gi h_.ae bh) ic h8)))]⟩ fun Z a K0 NI hS hE hr=>?_
   replace hO:=hO.m2 hE
   replace h107:=h107.m1 hE
   replace h111:=h111.m2 hE
   replace h112:=h112.m1 hE
   replace h114:=h114.m1 hE
   replace h120:=h120.m1 hE
   clear hE hr
   refine bq ?_
   refine oP T hS 2 ⟨[(1,Sl a3 l_ c3),(5,Pt 6 0),(8,Sl cI dD cH),(9,Pt 10 0),(10,Pt 11 0),(17,Sl a1 h_.ae c1),(18,I (lN h_.ae)),(19,I bh),(24,Sl a4 of c4),(25,I bh)],[(6,(43,[Sl a4 of c4])),(10,(3,[I bh])),(11,(48,(cO (gi h_.ae bh) ic h8)))]⟩ fun a hS=>?_
   obtain ⟨hq,hm⟩:=hm
   refine op1 (call hS kr kr hb69 kr (fun _ _=>rfl) (LQ _ _ of bh a4 c4 hq h114) ?_)
   intro v121 a uK uA hE hp hS
   replace hO:=hO.m2 hE
   replace h107:=h107.m1 hE
   replace h111:=h111.m2 hE
   replace h112:=h112.m1 hE
   replace h114:=h114.m1 hE
   replace h120:=h120.m1 hE
   obtain ⟨ja,iY,hp,h127⟩:=hp
   obtain ⟨dK,hr⟩:∃ r,aS of bh=r:=⟨_,rfl⟩
   replace hm:=hm dK hr
   rw [hr] at hp h127
   clear hr
   subst hp
   replace hm:=hm (h127.sm kr)
   refine eP T hS ⟨[(1,Sl a3 l_ c3),(5,Pt 6 0),(8,Sl cI dD cH),(9,Pt 10 0),(10,Pt 11 0),(11,Sl ja dK iY),(17,Sl a1 h_.ae c1),(18,I (lN h_.ae)),(19,I bh)],[(6,(43,[Sl a4 of c4])),(10,(3,[I bh])),(11,(48,(cO (gi h_.ae bh) ic h8)))]⟩ fun a hS=>?_
   refine dG [6,10,11] mixed hS ?_
   intro rV sb hS hE hD hH
   replace hO:=hO.m2 hE
   replace h107:=h107.m1 hE
   replace h111:=h111.m2 hE
   replace h112:=h112.m1 hE
   replace h114:=h114.m1 hE
   replace h120:=h120.m1 hE
   replace h127:=h127.m1 hE
   refine tk T [0,1,2] [6,10,11] hS hH #[true,true,true,false,false,false,false,false,false,false] 7 ⟨[(1,Sl a3 l_ c3),(5,Pt 6 0),(8,Sl cI dD cH),(11,Sl ja dK iY),(17,Sl a1 h_.ae c1),(18,I (lN h_.ae)),(19,I bh),(28,V (.agg #[.int .i64 ((gi h_.ae bh).au),.int .i64 ((gi h_.ae bh).az),.int .i64 ((gi h_.ae bh).aH),.slice ic ((gi h_.ae bh).Rows).length h8])),(29,Sl a3 l_ c3),(30,.f (.func 72) [] [.p 6 0,.p 10 0])],[(6,(43,[Sl a4 of c4])),(10,(3,[I bh])),(11,(48,(cO (gi h_.ae bh) ic h8)))]⟩ fun a hS=>?_
   obtain ⟨hq,hm⟩:=hm
   refine only 3 kr (by rfl) (ma hS kr kr hb71 kr (xx _ _ l_ of bh a3 c3 a4 c4 (Z 6) 6 (Z 10) 10 hq h107 h114 (hS.cell (id:=6) (t:=43) (cs:=[Sl a4 of c4]) kr) (hS.cell (id:=10) (t:=3) (cs:=[I bh]) kr) ⟨by decide,by decide⟩) ?_)
   intro v130 a pU pq hE hp hS
   replace hO:=hO.m2 hE
   replace hD:=hD.ev hE rfl
   replace h107:=h107.m1 hE
   replace h111:=h111.m2 hE
   replace h112:=h112.m1 hE
   replace h114:=h114.m1 hE
   replace h120:=h120.m1 hE
   replace h127:=h127.m1 hE
   obtain ⟨pn,pd,hp,h136,vz,FF⟩:=hp
   obtain ⟨gk,hr⟩:∃ r,bI l_ of bh=r:=⟨_,rfl⟩
   replace hm:=hm gk hr
   rw [hr] at hp h136
   clear hr
   subst hp
   replace hm:=hm (h136.sm kr)
   replace hS:=hS.cQ (id:=6) (t:=43) (cs:=[Sl a4 of c4]) kr vz
   replace hS:=hS.cQ (id:=10) (t:=3) (cs:=[I bh]) kr FF
   clear vz FF
   replace hS:=hS.sl ⟨[(1,Sl a3 l_ c3),(5,Pt 6 0),(8,Sl cI dD cH),(11,Sl ja dK iY),(17,Sl a1 h_.ae c1),(18,I (lN h_.ae)),(19,I bh),(28,V (.agg #[.int .i64 ((gi h_.ae bh).au),.int .i64 ((gi h_.ae bh).az),.int .i64 ((gi h_.ae bh).aH),.slice ic ((gi h_.ae bh).Rows).length h8])),(29,Sl a3 l_ c3),(30,.f (.func 72) [] [.p 6 0,.p 10 0]),(31,Sl pn gk pd)],[(6,(43,[Sl a4 of c4])),(10,(3,[I bh])),(11,(48,(cO (gi h_.ae bh) ic h8)))]⟩
   refine di (bP.of hS (bks:=[6,10,11]) kr hD) ?_
   intro hH
   obtain ⟨hq,hm⟩:=hm
   refine only 4 kr (by rfl) (call hS kr kr hb70 kr (fun _ _=>rfl) (LP _ _ (gi h_.ae bh) gk ic h8 pn pd 1013 hq h120 h136) ?_)
   intro v139 a zH x3 hE hp hS
   replace hO:=hO.m2 hE
   replace hD:=hD.ev hE rfl
   replace h107:=h107.m1 hE
   replace h111:=h111.m2 hE
   replace h112:=h112.m1 hE
   replace h114:=h114.m1 hE
   replace h120:=h120.m1 hE
   replace h127:=h127.m1 hE
   replace h136:=h136.m1 hE
   obtain ⟨kQ,kO,hp,h145⟩:=hp
   obtain ⟨cc,hr⟩:∃ r,bn (gi h_.ae bh) gk=r:=⟨_,rfl⟩
   replace hm:=hm cc hr
   rw [hr] at hp h145
   clear hr
   subst hp
   replace hm:=hm (h145.sm kr)
   replace hS:=hS.sl ⟨[(1,Sl a3 l_ c3),(5,Pt 6 0),(8,Sl cI dD cH),(11,Sl ja dK iY),(17,Sl a1 h_.ae c1),(18,I (lN h_.ae)),(19,I bh),(28,V (.agg #[.int .i64 ((gi h_.ae bh).au),.int .i64 ((gi h_.ae bh).az),.int .i64 ((gi h_.ae bh).aH),.slice ic ((gi h_.ae bh).Rows).length h8])),(29,Sl a3 l_ c3),(30,.f (.func 72) [] [.p 6 0,.p 10 0]),(31,Sl pn gk pd),(32,V (.tuple #[.slice kQ cc.1.length kO,.int .i64 cc.2]))],[(6,(43,[Sl a4 of c4])),(10,(3,[I bh])),(11,(48,(cO (gi h_.ae bh) ic h8)))]⟩
   refine di (bP.of hS (bks:=[6,10,11]) kr hD) ?_
   intro hH
   refine tk T [5,6,7,8,9] [6,10,11] hS hH #[true,true,true,true,true,true,true,true,true,true] 0 ⟨[(1,Sl a3 l_ c3),(5,Pt 6 0),(8,Sl cI dD cH),(11,Sl ja dK iY),(12,Sl kQ cc.1 kO),(13,I cc.2),(17,Sl a1 h_.ae c1),(18,I (lN h_.ae)),(19,I bh)],[(6,(43,[Sl a4 of c4])),(10,(3,[I bh])),(11,(48,(cO (gi h_.ae bh) ic h8)))]⟩ fun a hS=>?_
   refine aX kr ?_
   replace hS:=hS.sl ⟨[(1,Sl a3 l_ c3),(5,Pt 6 0),(8,Sl cI dD cH),(11,Sl ja dK iY),(12,Sl kQ cc.1 kO),(13,I cc.2),(17,Sl a1 h_.ae c1),(18,I (lN h_.ae)),(19,I bh)],[(6,(43,[Sl a4 of c4]))]⟩
   refine bg (rP T hS ⟨[(1,Sl a3 l_ c3),(5,Pt 6 0),(8,Sl cI dD cH),(11,Sl ja dK iY),(12,Sl kQ cc.1 kO),(13,I cc.2),(17,Sl a1 h_.ae c1),(18,I (lN h_.ae)),(19,I bh),(36,B (cc.2 != 0))],[(6,(43,[Sl a4 of c4]))]⟩ fun a hS=>?_)
   refine aJ hS (b:=(cc.2 != 0)) kr (fun hb=>?_) fun hb=>?_
   ·replace hm:=hm.1 hb
    refine rP T hS ⟨[(6,V (.slice none 0 0)),(7,I cc.2)],[]⟩ fun a hS=>?_
    refine aY ?_
    exact fin T hS hO (fun c=>c) rfl (r:=[.slice none 0 0,.int .i64 cc.2]) kr (fun X' hM hC=>⟨([],cc.2),hm,none,0,rfl,RS.empty _ _ _⟩)
   replace hm:=hm.2 hb
   refine aM ?_
   refine cb (fun a w=>∃ (Z:Nat->Nat) (X:Nat->Nat) (ep:List (List aa)) (gF:List aa) (Dg:Option Addr) (CY:Nat) (AV:Option Addr) (AK:Nat),VC42_J2 I1 μ1 dD bh ep gF/\St Tryz.f42.ntmps ⟨[(1,Sl a3 l_ c3),(5,Pt 6 0),(8,Sl Dg ep CY),(12,Sl AV gF AK),(17,Sl a1 h_.ae c1),(18,I (lN h_.ae)),(19,I bh)],[(6,(43,[Sl a4 of c4]))]⟩ Z a w X/\Old w0 X0 w X/\RS ar w X a3 l_ c3/\OS (cd av) 26 w X 1007 Dg ep CY/\OS av 56 w X 1013 AV gF AK/\RS aB w X a1 h_.ae c1/\RS tI w X a4 of c4) ?_ ?_
   ·refine rP T hS ⟨[(1,Sl a3 l_ c3),(5,Pt 6 0),(8,Sl cI dD cH),(11,Sl ja dK iY),(12,Sl kQ cc.1 kO),(17,Sl a1 h_.ae c1),(18,I (lN h_.ae)),(19,I bh),(38,Sl kQ cc.1 kO),(39,I (lN cc.1)),(40,I 0)],[(6,(43,[Sl a4 of c4]))]⟩ fun a hS=>?_
    refine aN ?_
    obtain ⟨I2,μ2,cx,hm⟩:=hm
    refine ct (σ:=(List (List aa)) × (List aa) × Int) (fun s a w=>∃ Z X p8 p5 jx jw,I2 s.1 s.2.1 s.2.2/\St Tryz.f42.ntmps ⟨[(1,Sl a3 l_ c3),(5,Pt 6 0),(8,Sl p8 s.1 p5),(11,Sl ja dK iY),(12,Sl jx s.2.1 jw),(17,Sl a1 h_.ae c1),(18,I (lN h_.ae)),(19,I bh),(38,Sl jx s.2.1 jw),(39,I (lN cc.1)),(40,I s.2.2)],[(6,(43,[Sl a4 of c4]))]⟩ Z a w X/\Old w0 X0 w X/\RS ar w X a3 l_ c3/\OS (cd av) 26 w X 1007 p8 s.1 p5/\RS tI w X ja dK iY/\OS av 56 w X 1013 jx s.2.1 jw/\RS aB w X a1 h_.ae c1/\RS tI w X a4 of c4) (fun s=>μ2 s.1 s.2.1 s.2.2) (⟨dD,cc.1,0⟩) ?_ ?_
    ·exact ⟨Z,_,cI,cH,kQ,kO,cx,hS.sl _,hO,h107,h111,h127,h145,h112,h114⟩
    rintro ⟨mR,gR,fV⟩ a PB ⟨Z,NL,p8,p5,jx,jw,hI,hS,hO,h168,h172,h173,h177,h178,h180⟩
    replace hm:=hm mR gR fV hI
    clear hI cx
    refine rP T hS ⟨[(1,Sl a3 l_ c3),(5,Pt 6 0),(8,Sl p8 mR p5),(11,Sl ja dK iY),(12,Sl jx gR jw),(17,Sl a1 h_.ae c1),(18,I (lN h_.ae)),(19,I bh),(38,Sl jx gR jw),(39,I (lN cc.1)),(40,I fV),(41,B (decide (fV < (lN cc.1))))],[(6,(43,[Sl a4 of c4]))]⟩ fun a hS=>?_
    refine bg ?_
    refine aJ hS (b:=decide (fV < (lN cc.1))) kr (fun hb=>?_) fun hb=>?_
    ·replace hm:=hm.1 hb
     refine aM (bg ?_)
     refine aN ?_
     refine bq ?_
     refine oP T hS 1 ⟨[(1,Sl a3 l_ c3),(5,Pt 6 0),(8,Sl p8 mR p5),(11,Sl ja dK iY),(12,Sl jx gR jw),(17,Sl a1 h_.ae c1),(18,I (lN h_.ae)),(19,I bh),(38,Sl jx gR jw),(39,I (lN cc.1)),(40,I fV),(42,I fV)],[(6,(43,[Sl a4 of c4]))]⟩ fun a hS=>?_
     obtain ⟨Fp,hm⟩:=hm
     refine op1 (lQ (E:=56) (k:=.i64) T hS kr kr kr kr h177 kr kr Fp.1 Fp.2 ?_)
     intro N1 a h183 h182 hS
     refine op1 (B8 T hS kr kr kr h182 kr kr ?_)
     intro v185 a hv hS
     subst hv
     refine eM T hS ⟨[(1,Sl a3 l_ c3),(5,Pt 6 0),(8,Sl p8 mR p5),(11,Sl ja dK iY),(12,Sl jx gR jw),(14,I fV),(15,Pt 16 0),(17,Sl a1 h_.ae c1),(18,I (lN h_.ae)),(19,I bh),(38,Sl jx gR jw),(39,I (lN cc.1)),(40,I fV)],[(6,(43,[Sl a4 of c4])),(16,(56,(cK (gi gR fV))))]⟩ fun Z a Ib J8 hS hE hr=>?_
     replace hO:=hO.m2 hE
     replace h168:=h168.m1 hE
     replace h172:=h172.m2 hE
     replace h173:=h173.m1 hE
     replace h177:=h177.m2 hE
     replace h178:=h178.m1 hE
     replace h180:=h180.m1 hE
     clear hE hr
     refine region ?_
     refine oP T hS 5 ⟨[(1,Sl a3 l_ c3),(5,Pt 6 0),(8,Sl p8 mR p5),(11,Sl ja dK iY),(12,Sl jx gR jw),(17,Sl a1 h_.ae c1),(18,I (lN h_.ae)),(19,I bh),(38,Sl jx gR jw),(39,I (lN cc.1)),(40,I fV),(45,Sl jx gR jw),(46,I fV),(47,Sl ja dK iY),(49,I ((gi gR fV).Oper))],[(6,(43,[Sl a4 of c4]))]⟩ fun a hS=>?_
     obtain ⟨hq,hm⟩:=hm
     refine op1 (index (e:=3) (k:=.i64) T hS kr kr kr kr h173 kr kr hq.1 hq.2 ?_)
     intro Sq a h187 hS
     refine op1 (dW T hS kr kr kr h187 rfl kr ?_)
     intro v188 a hv hS
     cases hv
     obtain ⟨yY,hm⟩:=hm
     refine op1 (lQ (E:=56) (k:=.i64) T hS kr kr kr kr h177 kr kr yY.1 yY.2 ?_)
     intro Sn a h191 h190 hS
     have h192:=h191.ad
     clear h191 h190
     refine op1 (ui (off:=0) (fsz:=1) (ft:=3) T hS kr kr kr h192 kr kr ?_)
     intro Sh a h195 hS
     refine op1 (tu (m:=1) (off:=0) (x:=(⟨gi dK ((gi gR fV).Oper),(gi gR fV).Result⟩:aa)) (v:=I (gi dK ((gi gR fV).Oper))) (i:=fV.toNat) (E:=56) (xs:=gR) T hS kr kr kr kr h177 h195 (by have:=yY.1; have:=yY.2; (try simp only [List.length_set]); omega) kr kr rfl (fun _ _ _ h=>by cases h; rfl) ?_)
     intro a Ic hE h197 hS
     clear h177
     replace hO:=hO.m2 hE
     replace h168:=h168.m1 hE
     replace h172:=h172.m2 hE
     replace h173:=h173.m1 hE
     replace h178:=h178.m1 hE
     replace h180:=h180.m1 hE
     replace h187:=h187.m1 hE
     replace hS:=hS.conv (t:=12) (y:=.slice jx (gR.set fV.toNat (⟨gi dK ((gi gR fV).Oper),(gi gR fV).Result⟩:aa)).length jw) kr (by rw [List.length_set])
     replace hS:=hS.conv (t:=38) (y:=.slice jx (gR.set fV.toNat (⟨gi dK ((gi gR fV).Oper),(gi gR fV).Result⟩:aa)).length jw) kr (by rw [List.length_set])
     replace hS:=hS.conv (t:=45) (y:=.slice jx (gR.set fV.toNat (⟨gi dK ((gi gR fV).Oper),(gi gR fV).Result⟩:aa)).length jw) kr (by rw [List.length_set])
     refine gY ?_
     refine region (eP T hS ⟨[(1,Sl a3 l_ c3),(5,Pt 6 0),(8,Sl p8 mR p5),(11,Sl ja dK iY),(12,Sl jx (gR.set fV.toNat (⟨gi dK ((gi gR fV).Oper),(gi gR fV).Result⟩:aa)) jw),(17,Sl a1 h_.ae c1),(18,I (lN h_.ae)),(19,I bh),(38,Sl jx (gR.set fV.toNat (⟨gi dK ((gi gR fV).Oper),(gi gR fV).Result⟩:aa)) jw),(39,I (lN cc.1)),(40,I (wR (fV+1)))],[(6,(43,[Sl a4 of c4]))]⟩ fun a hS=>?_)
     exact ⟨⟨mR,(gR.set fV.toNat (⟨gi dK ((gi gR fV).Oper),(gi gR fV).Result⟩:aa)),wR (fV+1)⟩,⟨Z,_,p8,p5,jx,jw,hm.1,hS.sl _,hO,h168,h172,h173,h197,h178,h180⟩,hm.2⟩
    replace hm:=hm.2 hb
    refine cm (by rfl) ?_
    exact ⟨Z,_,mR,gR,p8,p5,jx,jw,hm,hS.sl _,hO,h168,h172,h177,h178,h180⟩
   rintro a H9 ⟨Z,NJ,ep,gF,Dg,CY,AV,AK,hm,hS,hO,h146,h150,h154,h155,h156⟩
   unfold VC42_J2 at hm
   refine region ?_
   refine oP T hS 2 ⟨[(1,Sl a3 l_ c3),(5,Pt 6 0),(8,Sl Dg ep CY),(17,Sl a1 h_.ae c1),(18,I (lN h_.ae)),(19,I bh),(55,Sl Dg ep CY),(56,Sl AV gF AK)],[(6,(43,[Sl a4 of c4]))]⟩ fun a hS=>?_
   obtain ⟨E0,hE,hF⟩:=h154.freeze (by decide)
   replace hS:=hS.ev hE (cA kr)
   replace hO:=hO.m2 hE
   replace h146:=h146.m1 hE
   replace h150:=h150.m2 hE
   replace h155:=h155.m1 hE
   replace h156:=h156.m1 hE
   have h158:=hF; clear hE hF
   refine op1 (lit (E:=26) (col:=0) (T:=(cd av)) (vals:=[.slice AV gF.length AK]) (ys:=[gF]) T hS kr kr kr kr (by exact ⟨⟨AV,AK,rfl,h158⟩,trivial⟩) rfl kr kr kr kr ?_)
   intro b159 a Bl Di hE h162 hN hS
   clear hN
   replace hO:=hO.m2 hE
   replace h146:=h146.m1 hE
   replace h150:=h150.m2 hE
   replace h155:=h155.m1 hE
   replace h156:=h156.m1 hE
   replace h158:=h158.m1 hE
   replace h162:=h162.rs0
   obtain ⟨hq,hm⟩:=hm
   obtain ⟨news,hN⟩:=h162.src
   refine op1 (append (E:=26) (T:=(cd av)) (col:=1007) (xs:=ep) T hS kr kr kr kr h150 hN kr kr kr kr hq ?_)
   intro Hu Hp a Ik HB hE h165 hS
   clear hq hN
   clear h150
   replace hO:=hO.m2 hE
   replace h146:=h146.m1 hE
   replace h155:=h155.m1 hE
   replace h156:=h156.m1 hE
   replace h158:=h158.m1 hE
   replace h162:=h162.m1 hE
   refine eP T hS ⟨[(1,Sl a3 l_ c3),(5,Pt 6 0),(8,Sl Hu (ep++[gF]) Hp),(17,Sl a1 h_.ae c1),(18,I (lN h_.ae)),(19,I bh)],[(6,(43,[Sl a4 of c4]))]⟩ fun a hS=>?_
   refine region (eP T hS ⟨[(1,Sl a3 l_ c3),(5,Pt 6 0),(8,Sl Hu (ep++[gF]) Hp),(17,Sl a1 h_.ae c1),(18,I (lN h_.ae)),(19,I (wR (bh+1)))],[(6,(43,[Sl a4 of c4]))]⟩ fun a hS=>?_)
   exact ⟨⟨ep++[gF],wR (bh+1)⟩,⟨Z,_,Hu,Hp,hm.1,hS.sl _,hO,h146,h165,h155,h156⟩,hm.2⟩
  replace hm:=hm.2 hb
  refine cm (by rfl) ?_
  exact ⟨Z,_,dD,cI,cH,hm,hS.sl _,hO,h111⟩
 rintro a H6 ⟨Z,NG,bE,dy,dx,hm,hS,hO,h104⟩
 unfold VC42_J1 at hm
 refine rP T hS ⟨[(6,Sl dy bE dx),(7,I 0)],[]⟩ fun a hS=>?_
 refine aY ?_
 obtain ⟨pt,hE,hF⟩:=h104.freeze (by decide)
 replace hS:=hS.ev hE (cA kr)
 replace hO:=hO.m2 hE
 have h106:=hF; clear hE hF
 exact fin T hS hO (fun c=>c) rfl (r:=[.slice dy bE.length dx,.int .i64 0]) kr (fun X' hM hC=>⟨(bE,0),hm,dy,dx,rfl,h106.m0 hM⟩)
theorem C42 (LQ:S69) (LP:S70) (xx:S71_72) (v:∀ (h_:al) (l_:List ab) (of:List Int),yo h_ l_ of->VC42 h_ l_ of (fun r=>r=cM h_ l_ of)):S42:=by
 intro w X h_ l_ of a1 c1 a2 c2 a3 c3 a4 c4   hp h1 h2 h3 h4
 refine (W42 LQ LP xx w X h_ l_ of a1 c1 a2 c2 a3 c3 a4 c4   _ (v h_ l_ of hp) h1 h2 h3 h4).mono ?_
 rintro _ _ _ _ ⟨r,rfl,h⟩
 exact h
theorem W91 (w0) (X0) (n_:Int) (cU) (Q:(List aa)->Prop) (hm:VC91 n_ Q) :
  Ret Tryz.prog 91 #[.slice none 0 0,.int .i64 n_] aL w0 X0 (fun w X' v=>∃ r,Q r/\∃ cz cy,v=.slice cz r.length cy/\OS av 56 w X' cU cz r cy):=by
 unfold VC91 at hm
 refine enter Tryz.func91 rfl (vals:=[.slice none 0 0,.int .i64 n_]) kr ?_
 intro Z a hS hO hM
 refine rPe T hS [] [] fun a hS=>?_
 refine bg ?_
 refine rPe T hS [] [(6,B (decide (n_ < 0)))] fun a hS=>?_
 refine aJ hS (b:=decide (n_ < 0)) kr (fun hb=>?_) fun hb=>?_
 ·replace hm:=hm.1 hb
  exact hm.elim
 replace hm:=hm.2 hb
 refine aM ?_
 refine cb (fun a w=>∃ (Z:Nat->Nat) (X:Nat->Nat) (bE:List aa) (dy:Option Addr) (dx:Nat),VC91_J1 Q bE/\St Tryz.f91.ntmps ⟨[(0,Sl dy bE dx)],[]⟩ Z a w X/\Old w0 X0 w X/\OS av 56 w X 1001 dy bE dx) ?_ ?_
 ·refine bq ?_
  refine oPe T hS 2 [6] [(8,I n_),(9,V (.slice none 0 0))] fun a hS=>?_
  refine op1 (JD (E:=56) T hS kr kr kr kr ?_)
  intro a hS
  refine ePe T hS [8,9,10] [(1,I (wR (n_ - (wR (0 - 0)))))] fun a hS=>?_
  refine rPe T hS [] [(16,B (decide ((wR (n_ - (wR (0 - 0)))) > 0)))] fun a hS=>?_
  refine aJ hS (b:=decide ((wR (n_ - (wR (0 - 0)))) > 0)) kr (fun hb=>?_) fun hb=>?_
  ·replace hm:=hm.1 hb
   refine region ?_
   refine oPe T hS 2 [16] [(17,V (.slice none 0 0)),(18,V (.slice none 0 0))] fun a hS=>?_
   refine op1 (JD (E:=56) T hS kr kr kr kr ?_)
   intro a hS
   obtain ⟨hq,hm⟩:=hm
   refine op1 (BC (k:=.i64) (E:=56) (col:=1001) (T:=av) (xs:=([]:List aa)) (ad:=none) (c:=0) T hS kr kr kr kr (OS.nil _ _ _ _ _) kr kr hq.1 hq.2 ?_)
   intro a h105 hS
   clear h105
   replace hS:=hS.conv (t:=20) (y:=.slice none 0 0) kr (by rfl)
   refine oPe T hS 1 [1,17,18,19] [(21,I (wR (n_ - (wR (0 - 0)))))] fun a hS=>?_
   obtain ⟨hq,hm⟩:=hm
   refine op1 (EO (kn:=.i64) (E:=56) (T:=av) (col:=1001) (m:=wR (n_ - (wR (0 - 0)))) T (⟨0,0⟩:aa) hS kr kr kr kr kr kr kr kr kr hq.1 hq.2 (fun _ _=>rfl) ?_)
   intro cI cH a ny m9 hE h108 hS
   replace hO:=hO.m2 hE
   refine oPe T hS 2 [20,21] [(24,I 0)] fun a hS=>?_
   obtain ⟨hq,hm⟩:=hm
   refine op1 (BC (k:=.i64) (E:=56) (col:=1001) (T:=av) (xs:=List.replicate (wR (n_ - (wR (0 - 0)))).toNat (⟨0,0⟩:aa)) (ad:=cI) (c:=cH) T hS kr kr kr kr h108 kr kr hq.1 hq.2 ?_)
   intro a h111 hS
   clear h108
   refine ePe T hS [24,25] [(0,Sl cI ((List.replicate (wR (n_ - (wR (0 - 0)))).toNat (⟨0,0⟩:aa)).take (0:Int).toNat) cH)] fun a hS=>?_
   exact ⟨Z,_,(List.replicate (wR (n_ - (wR (0 - 0)))).toNat (⟨0,0⟩:aa)).take (0:Int).toNat,cI,cH,hm,hS.sl _,hO,h111⟩
  replace hm:=hm.2 hb
  refine aM ?_
  exact ⟨Z,_,[],none,0,hm,hS.sl _,hO,(OS.nil _ _ _ _ _)⟩
 rintro a uM ⟨Z,uC,bE,dy,dx,hm,hS,hO,h104⟩
 unfold VC91_J1 at hm
 refine rPe T hS [0] [(4,Sl dy bE dx)] fun a hS=>?_
 refine aY ?_
 exact fin T hS hO (zAf0 cU) rfl (r:=[.slice dy bE.length dx]) kr (fun X' hM hC=>⟨bE,hm,dy,dx,rfl,(OS.out (f:=(zAf0 cU)) h104 hM hC kr)⟩)
theorem C91 (v:∀ (n_:Int),yB n_->VC91 n_ (fun r=>r=cu n_)):S91:=by
 intro w X n_  cU  hp 
 refine (W91 w X n_  cU  _ (v n_ hp)).mono ?_
 rintro _ _ _ _ ⟨r,rfl,h⟩
 exact h
theorem W73 (LA:S91) (w0) (X0) (bX:List (List aa)) (a1) (c1) (Q:(List aa)->Prop) (hm:VC73 bX Q) (h1:RS (cd av) w0 X0 a1 bX c1) :
  Ret Tryz.prog 73 #[.slice a1 bX.length c1] aL w0 X0 (fun w X' v=>∃ r,Q r/\∃ cz cy,v=.slice cz r.length cy/\RS av w X' cz r cy):=by
 unfold VC73 at hm
 replace hm:=hm (h1.sm kr)
 refine enter Tryz.func73 rfl (vals:=[.slice a1 bX.length c1]) kr ?_
 intro Z a hS hO hM
 replace h1:=h1.m0 hM
 refine rPe T hS [] [] fun a hS=>?_
 refine rPe T hS [] [(3,I 0)] fun a hS=>?_
 refine cb (fun a w=>∃ (Z:Nat->Nat) (X:Nat->Nat) (bC:Int),VC73_J1 bX Q bC/\St Tryz.f73.ntmps ⟨[(0,Sl a1 bX c1),(3,I bC)],[]⟩ Z a w X/\Old w0 X0 w X/\RS (cd av) w X a1 bX c1) ?_ ?_
 ·refine rPe T hS [] [(9,Sl a1 bX c1),(10,I (lN bX)),(11,I 0)] fun a hS=>?_
  refine aN ?_
  obtain ⟨I2,μ2,cx,hm⟩:=hm
  refine ct (σ:=Int × Int) (fun s a w=>∃ Z X,I2 s.1 s.2/\St Tryz.f73.ntmps ⟨[(0,Sl a1 bX c1),(3,I s.1),(9,Sl a1 bX c1),(10,I (lN bX)),(11,I s.2)],[]⟩ Z a w X/\Old w0 X0 w X/\RS (cd av) w X a1 bX c1/\RS (cd av) w X a1 bX c1) (fun s=>μ2 s.1 s.2) (⟨0,0⟩) ?_ ?_
  ·exact ⟨Z,_,cx,hS.sl _,hO,h1,h1⟩
  rintro ⟨qm,rU⟩ a Bo ⟨Z,HF,hI,hS,hO,h137,h139⟩
  replace hm:=hm qm rU hI
  clear hI cx
  refine rPe T hS [] [(12,B (decide (rU < (lN bX))))] fun a hS=>?_
  refine bg ?_
  refine aJ hS (b:=decide (rU < (lN bX))) kr (fun hb=>?_) fun hb=>?_
  ·replace hm:=hm.1 hb
   refine aM (bg ?_)
   refine aN ?_
   refine bq ?_
   obtain ⟨hq,hm⟩:=hm
   refine op1 (index (e:=26) (k:=.i64) T hS kr kr kr kr h139 kr kr hq.1 hq.2 ?_)
   intro SK a h142 hS
   refine op1 (dW T hS kr kr kr h142 rfl kr ?_)
   intro v143 a hv hS
   obtain ⟨oL,oG,hv,h146⟩:=hv
   cases hv
   replace hm:=hm (h146.sm kr)
   refine ePe T hS [12,13,14] [(5,Sl oL (gi bX rU) oG)] fun a hS=>?_
   refine rPe T hS [5] [(3,I (wR (qm+(lN (gi bX rU)))))] fun a hS=>?_
   refine rPe T hS [] [(20,B (decide ((wR (qm+(lN (gi bX rU)))) < 0)))] fun a hS=>?_
   refine aJ hS (b:=decide ((wR (qm+(lN (gi bX rU)))) < 0)) kr (fun hb=>?_) fun hb=>?_
   ·replace hm:=hm.1 hb
    exact hm.elim
   replace hm:=hm.2 hb
   refine aM ?_
   refine region (ePe T hS [20] [(11,I (wR (rU+1)))] fun a hS=>?_)
   exact ⟨⟨wR (qm+(lN (gi bX rU))),wR (rU+1)⟩,⟨Z,_,hm.1,hS.sl _,hO,h137,h139⟩,hm.2⟩
  replace hm:=hm.2 hb
  refine cm (by rfl) ?_
  exact ⟨Z,_,qm,hm,hS.sl _,hO,h137⟩
 rintro a Bn ⟨Z,xY,bC,hm,hS,hO,h101⟩
 unfold VC73_J1 at hm
 refine bq ?_
 refine oPe T hS 1 [3] [(23,I bC)] fun a hS=>?_
 obtain ⟨hq,hm⟩:=hm
 refine op1 (call hS kr kr hb91 kr (fun _ _=>rfl) (LA _ _ bC 1003 hq) ?_)
 intro v103 a zL pt hE hp hS
 replace hO:=hO.m2 hE
 replace h101:=h101.m1 hE
 obtain ⟨AW,AL,hp,h109⟩:=hp
 obtain ⟨gC,hr⟩:∃ r,cu bC=r:=⟨_,rfl⟩
 replace hm:=hm gC hr
 rw [hr] at hp h109
 clear hr
 subst hp
 replace hm:=hm (h109.sm kr)
 refine ePe T hS [23,24] [(6,Sl AW gC AL)] fun a hS=>?_
 refine cb (fun a w=>∃ (Z:Nat->Nat) (X:Nat->Nat) (bL:List aa) (jb:Option Addr) (iZ:Nat),VC73_J2 Q bL/\St Tryz.f73.ntmps ⟨[(6,Sl jb bL iZ)],[]⟩ Z a w X/\Old w0 X0 w X/\OS av 56 w X 1003 jb bL iZ) ?_ ?_
 ·refine rPe T hS [0] [(25,Sl a1 bX c1),(26,I (lN bX)),(27,I 0)] fun a hS=>?_
  refine aN ?_
  obtain ⟨I1,μ1,cx,hm⟩:=hm
  refine ct (σ:=(List aa) × Int) (fun s a w=>∃ Z X lE lD,I1 s.1 s.2/\St Tryz.f73.ntmps ⟨[(6,Sl lE s.1 lD),(25,Sl a1 bX c1),(26,I (lN bX)),(27,I s.2)],[]⟩ Z a w X/\Old w0 X0 w X/\OS av 56 w X 1003 lE s.1 lD/\RS (cd av) w X a1 bX c1) (fun s=>μ1 s.1 s.2) (⟨gC,0⟩) ?_ ?_
  ·exact ⟨Z,_,AW,AL,cx,hS.sl _,hO,h109,h101⟩
  rintro ⟨a9,iK⟩ a uH ⟨Z,NY,lE,lD,hI,hS,hO,h119,h120⟩
  replace hm:=hm a9 iK hI
  clear hI cx
  refine rPe T hS [] [(28,B (decide (iK < (lN bX))))] fun a hS=>?_
  refine bg ?_
  refine aJ hS (b:=decide (iK < (lN bX))) kr (fun hb=>?_) fun hb=>?_
  ·replace hm:=hm.1 hb
   refine aM (bg ?_)
   refine aN ?_
   refine bq ?_
   obtain ⟨hq,hm⟩:=hm
   refine op1 (index (e:=26) (k:=.i64) T hS kr kr kr kr h120 kr kr hq.1 hq.2 ?_)
   intro Du a h123 hS
   refine op1 (dW T hS kr kr kr h123 rfl kr ?_)
   intro v124 a hv hS
   obtain ⟨ja,iY,hv,h127⟩:=hv
   cases hv
   replace hm:=hm (h127.sm kr)
   refine ePe T hS [28,29,30] [(8,Sl ja (gi bX iK) iY)] fun a hS=>?_
   refine region ?_
   refine oPe T hS 2 [8] [(31,Sl lE a9 lD),(32,Sl ja (gi bX iK) iY)] fun a hS=>?_
   obtain ⟨hq,hm⟩:=hm
   obtain ⟨news,hN⟩:=h127.src
   refine op1 (append (E:=56) (T:=av) (col:=1003) (xs:=a9) T hS kr kr kr kr h119 hN kr kr kr kr hq ?_)
   intro J5 JQ a rV sb hE h130 hS
   clear hq hN
   clear h119
   replace hO:=hO.m2 hE
   replace h120:=h120.m1 hE
   replace h127:=h127.m1 hE
   refine ePe T hS [32,33] [(6,Sl J5 (a9++(gi bX iK)) JQ)] fun a hS=>?_
   refine region (ePe T hS [] [(27,I (wR (iK+1)))] fun a hS=>?_)
   exact ⟨⟨a9++(gi bX iK),wR (iK+1)⟩,⟨Z,_,J5,JQ,hm.1,hS.sl _,hO,h130,h120⟩,hm.2⟩
  replace hm:=hm.2 hb
  refine cm (by rfl) ?_
  exact ⟨Z,_,a9,lE,lD,hm,hS.sl _,hO,h119⟩
 rintro a tl ⟨Z,uz,bL,jb,iZ,hm,hS,hO,h113⟩
 unfold VC73_J2 at hm
 refine rPe T hS [6] [(2,Sl jb bL iZ)] fun a hS=>?_
 refine aY ?_
 obtain ⟨wC,hE,hF⟩:=h113.freeze (by decide)
 replace hS:=hS.ev hE (cA kr)
 replace hO:=hO.m2 hE
 have h115:=hF; clear hE hF
 exact fin T hS hO (fun c=>c) rfl (r:=[.slice jb bL.length iZ]) kr (fun X' hM hC=>⟨bL,hm,jb,iZ,rfl,h115.m0 hM⟩)
theorem C73 (LA:S91) (v:∀ (bX:List (List aa)),sA bX->VC73 bX (fun r=>r=cg bX)):S73:=by
 intro w X bX a1 c1   hp h1
 refine (W73 LA w X bX a1 c1   _ (v bX hp) h1).mono ?_
 rintro _ _ _ _ ⟨r,rfl,h⟩
 exact h
end Go.Proofs.YteahldlmkheleaaGreat
