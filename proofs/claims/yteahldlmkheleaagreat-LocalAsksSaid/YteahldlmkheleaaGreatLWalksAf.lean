/- Walks. -/
import Derived.Test.YteahldlmkheleaaGreatLWalksS
set_option linter.all false
namespace Go.Proofs.YteahldlmkheleaaGreat
open Go Go.Sv
abbrev zAf0 (cG:Nat):Nat->Nat:=fun c=>(bif Nat.beq c 1001 then cG else c)
set_option maxHeartbeats 1000000
theorem W28 (GB:S45) (GA:S50) (Gy:S58) (LJ:S59) (w0) (X0) (objects:List ae) (l_:List az) (a1) (c1) (a2) (c2) (Q:Int × Int->Prop) (hm:VC28 objects l_ Q) (h1:RS aA w0 X0 a1 objects c1) (h2:RS br w0 X0 a2 l_ c2) :
  Ret Tryz.prog 28 #[.slice a1 objects.length c1,.slice a2 l_.length c2] aJ w0 X0 (fun w X' v=>∃ r,Q r/\v=.tuple #[.int .i64 r.1,.int .i64 r.2]):=by
 unfold VC28 at hm
 replace hm:=hm (h1.sm kr)
 replace hm:=hm (h2.sm kr)
 refine enter Tryz.func28 rfl (vals:=[.slice a1 objects.length c1,.slice a2 l_.length c2]) kr ?_
 intro Z a hS hO hM
 replace h1:=h1.m0 hM
 replace h2:=h2.m0 hM
 refine rPe T hS [] [] fun a hS=>?_
 refine bc ?_
 refine rPe T hS [] [(20,B ((decide ((lN objects) < 1)) || (decide ((lN objects) > 8))))] (sp:=[16]) fun a hS=>?_
 refine aG hS (b:=((decide ((lN objects) < 1)) || (decide ((lN objects) > 8)))) kr (fun hb=>?_) fun hb=>?_
 ·replace hm:=hm.1 hb
  refine rPe T hS [0,1,20] [(4,I (-1)),(5,I 2)] fun a hS=>?_
  refine aY ?_
  exact fin T hS hO (fun c=>c) rfl (r:=[.int .i64 (-1),.int .i64 2]) kr (fun X' hM hC=>⟨((-1),2),hm,rfl⟩)
 replace hm:=hm.2 hb
 refine aH ?_
 refine bT (fun a w=>∃ Z X,VC28_J1 objects l_ Q/\St Tryz.f28.ntmps ⟨[(0,Sl a1 objects c1),(1,Sl a2 l_ c2)],[]⟩ Z a w X/\Old w0 X0 w X/\RS aA w X a1 objects c1/\RS br w X a2 l_ c2) ?_ ?_
 ·refine rPe T hS [20] [(6,I 0)] fun a hS=>?_
  refine aL ?_
  obtain ⟨I2,μ2,co,hm⟩:=hm
  refine cl (σ:=Int) (fun s a w=>∃ Z X,I2 s/\St Tryz.f28.ntmps ⟨[(0,Sl a1 objects c1),(1,Sl a2 l_ c2),(6,I s)],[]⟩ Z a w X/\Old w0 X0 w X/\RS aA w X a1 objects c1/\RS br w X a2 l_ c2) (fun s=>μ2 s) (0) ?_ ?_
  ·exact ⟨Z,_,co,hS.sl _,hO,h1,h2⟩
  rintro jh a F6 ⟨Z,ES,hI,hS,hO,h150,h151⟩
  replace hm:=hm jh hI
  clear hI co
  refine bc ?_
  refine rPe T hS [] [(24,B (decide (jh < (lN objects))))] fun a hS=>?_
  refine aG hS (b:=decide (jh < (lN objects))) kr (fun hb=>?_) fun hb=>?_
  ·replace hm:=hm.1 hb
   refine aH (bc ?_)
   refine aL ?_
   refine bj ?_
   refine oPe T hS 2 [24] [(28,Sl a1 objects c1),(29,I jh)] fun a hS=>?_
   obtain ⟨hq,hm⟩:=hm
   refine op1 (index (e:=48) (k:=.i64) T hS kr kr kr kr h150 kr kr hq.1 hq.2 ?_)
   intro Ke a h154 hS
   refine op1 (eC T hS kr kr kr h154 kr kr ?_)
   intro v155 a hv hS
   obtain ⟨M5,MV,hv,h158⟩:=hv
   subst hv
   replace hm:=hm (h158.sm kr)
   refine op1 (call hS kr kr hb58 kr (fun _ _=>rfl) (Gy _ _ (gi objects jh) M5 MV h158) ?_)
   intro v159 a zi AE hE hp hS
   replace hO:=hO.m2 hE
   replace h150:=h150.m1 hE
   replace h151:=h151.m1 hE
   replace h154:=h154.m1 hE
   replace h158:=h158.m1 hE
   obtain ⟨uM,hr⟩:∃ r,cJ (gi objects jh)=r:=⟨_,rfl⟩
   replace hm:=hm uM hr
   rw [hr] at hp
   clear hr
   subst hp
   refine ePe T hS [28,29,30,31,32] [(8,I uM.2)] fun a hS=>?_
   refine rPe T hS [8] [(36,B (uM.2 != 0))] fun a hS=>?_
   refine aG hS (b:=(uM.2 != 0)) kr (fun hb=>?_) fun hb=>?_
   ·replace hm:=hm.1 hb
    refine rPe T hS [0,1,6,36] [(4,I (-1)),(5,I 2)] fun a hS=>?_
    refine aY ?_
    exact fin T hS hO (fun c=>c) rfl (r:=[.int .i64 (-1),.int .i64 2]) kr (fun X' hM hC=>⟨((-1),2),hm,rfl⟩)
   replace hm:=hm.2 hb
   refine aH ?_
   refine region (ePe T hS [36] [(6,I (wR (jh+1)))] fun a hS=>?_)
   exact ⟨wR (jh+1),⟨Z,_,hm.1,hS.sl _,hO,h150,h151⟩,hm.2⟩
  replace hm:=hm.2 hb
  refine cb (by rfl) ?_
  exact ⟨Z,_,hm,hS.sl _,hO,h150,h151⟩
 rintro a H5 ⟨Z,J4,hm,hS,hO,h101,h102⟩
 unfold VC28_J1 at hm
 refine bj ?_
 refine oPe T hS 1 [] [(38,Sl a2 l_ c2)] fun a hS=>?_
 obtain ⟨hq,hm⟩:=hm
 refine op1 (call hS kr kr hb45 kr (fun _ _=>rfl) (GB _ _ l_ a2 c2 hq h102) ?_)
 intro v103 a zr o1 hE hp hS
 replace hO:=hO.m2 hE
 replace h101:=h101.m1 hE
 replace h102:=h102.m1 hE
 obtain ⟨AD,As,hp,h109⟩:=hp
 obtain ⟨f9,hr⟩:∃ r,bQ l_=r:=⟨_,rfl⟩
 replace hm:=hm f9 hr
 rw [hr] at hp h109
 clear hr
 subst hp
 replace hm:=hm (h109.sm kr)
 refine op1 (call hS kr kr hb50 kr (fun _ _=>rfl) (GA _ _ f9 AD As h109) ?_)
 intro v110 a DK rJ hE hp hS
 replace hO:=hO.m2 hE
 replace h101:=h101.m1 hE
 replace h102:=h102.m1 hE
 replace h109:=h109.m1 hE
 obtain ⟨fS,hr⟩:∃ r,eR f9=r:=⟨_,rfl⟩
 replace hm:=hm fS hr
 rw [hr] at hp
 clear hr
 subst hp
 refine ePe T hS [38,39,40] [(9,I fS.1),(10,I fS.2)] fun a hS=>?_
 refine bc ?_
 refine rPe T hS [] [(44,B (fS.2 != 0))] fun a hS=>?_
 refine aG hS (b:=(fS.2 != 0)) kr (fun hb=>?_) fun hb=>?_
 ·replace hm:=hm.1 hb
  refine rPe T hS [0,1,9,10,44] [(4,I fS.1),(5,I fS.2)] fun a hS=>?_
  refine aY ?_
  exact fin T hS hO (fun c=>c) rfl (r:=[.int .i64 fS.1,.int .i64 fS.2]) kr (fun X' hM hC=>⟨(fS.1,fS.2),hm,rfl⟩)
 replace hm:=hm.2 hb
 refine aH ?_
 refine bT (fun a w=>∃ Z X,VC28_J2 l_ Q/\St Tryz.f28.ntmps ⟨[(1,Sl a2 l_ c2)],[]⟩ Z a w X/\Old w0 X0 w X/\RS br w X a2 l_ c2) ?_ ?_
 ·refine rPe T hS [9,10,44] [(11,I 0)] fun a hS=>?_
  refine aL ?_
  obtain ⟨I1,μ1,co,hm⟩:=hm
  refine cl (σ:=Int) (fun s a w=>∃ Z X,I1 s/\St Tryz.f28.ntmps ⟨[(0,Sl a1 objects c1),(1,Sl a2 l_ c2),(11,I s)],[]⟩ Z a w X/\Old w0 X0 w X/\RS aA w X a1 objects c1/\RS br w X a2 l_ c2) (fun s=>μ1 s) (0) ?_ ?_
  ·exact ⟨Z,_,co,hS.sl _,hO,h101,h102⟩
  rintro c8 a wq ⟨Z,AH,hI,hS,hO,h115,h116⟩
  replace hm:=hm c8 hI
  clear hI co
  refine bc ?_
  refine rPe T hS [] [(50,B (decide (c8 < (lN l_))))] fun a hS=>?_
  refine aG hS (b:=decide (c8 < (lN l_))) kr (fun hb=>?_) fun hb=>?_
  ·replace hm:=hm.1 hb
   refine aH (bc ?_)
   refine aL ?_
   refine bj ?_
   refine oPe T hS 2 [50] [(53,Sl a2 l_ c2),(54,I c8)] fun a hS=>?_
   obtain ⟨hq,hm⟩:=hm
   refine op1 (index (e:=77) (k:=.i64) T hS kr kr kr kr h116 kr kr hq.1 hq.2 ?_)
   intro Hz a h119 hS
   refine op1 (eC T hS kr kr kr h119 kr kr ?_)
   intro v120 a hv hS
   subst hv
   refine eM T hS ⟨[(0,Sl a1 objects c1),(1,Sl a2 l_ c2),(11,I c8),(12,Pt 13 0)],[(13,(77,[I ((gi l_ c8).ax),I (((gi l_ c8).aI).bh),I (((gi l_ c8).aI).aj),I (((gi l_ c8).aI).N)]))]⟩ fun Z a zm ua hS hE hr=>?_
   replace hO:=hO.m2 hE
   replace h115:=h115.m1 hE
   replace h116:=h116.m1 hE
   clear hE hr
   refine bc ?_
   refine rPe T hS [] [(66,B ((decide (((gi l_ c8).ax) < 0)) || (decide (((gi l_ c8).ax)≥(lN objects)))))] (sp:=[60]) fun a hS=>?_
   refine aG hS (b:=((decide (((gi l_ c8).ax) < 0)) || (decide (((gi l_ c8).ax)≥(lN objects))))) kr (fun hb=>?_) fun hb=>?_
   ·replace hm:=hm.1 hb
    refine rP T hS ⟨[(4,I c8),(5,I 2)],[]⟩ fun a hS=>?_
    refine aY ?_
    exact fin T hS hO (fun c=>c) rfl (r:=[.int .i64 c8,.int .i64 2]) kr (fun X' hM hC=>⟨(c8,2),hm,rfl⟩)
   replace hm:=hm.2 hb
   refine aH (bc ?_)
   refine bT (fun a w=>∃ (Z:Nat->Nat) (X:Nat->Nat) (fx:Bool),VC28_J3 objects l_ Q I1 μ1 c8 fx/\St Tryz.f28.ntmps ⟨[(0,Sl a1 objects c1),(1,Sl a2 l_ c2),(11,I c8),(12,Pt 13 0),(79,B fx)],[(13,(77,[I ((gi l_ c8).ax),I (((gi l_ c8).aI).bh),I (((gi l_ c8).aI).aj),I (((gi l_ c8).aI).N)]))]⟩ Z a w X/\Old w0 X0 w X/\RS aA w X a1 objects c1/\RS br w X a2 l_ c2) ?_ ?_
   ·refine gI [13] mixed hS ?_
    intro p3 rH hS hE hD hH
    replace hO:=hO.m2 hE
    replace h115:=h115.m1 hE
    replace h116:=h116.m1 hE
    refine tke T [0,1,2,3,4] [13] hS hH #[true,true,true,true,true,false,false,false,false,false,false,false] 7 [] [(72,B ((((gi l_ c8).aI).bh) == 2))] fun a hS=>?_
    rcases bft ((((gi l_ c8).aI).bh) == 2) with hb | hb
    ·replace hS:=hS.lit (t:=72) kr hb
     replace hm:=hm.1 hb
     refine tke T [5,6,8,9] [13] hS hH #[true,true,true,true,true,true,true,false,true,true,false,false] 3 [] [(73,Sl a2 l_ c2),(74,I c8),(77,I ((gi l_ c8).ax))] fun a hS=>?_
     obtain ⟨hq,hm⟩:=hm
     refine only 7 kr (by rfl) (call hS kr kr hb59 kr (fun _ _=>rfl) (LJ _ _ l_ c8 a2 c2 hq h116) ?_)
     intro v138 a rt uc hE hp hS
     replace hO:=hO.m2 hE
     replace hD:=hD.ev hE rfl
     replace h115:=h115.m1 hE
     replace h116:=h116.m1 hE
     obtain ⟨mE,hr⟩:∃ r,fC l_ c8=r:=⟨_,rfl⟩
     replace hm:=hm mE hr
     rw [hr] at hp
     clear hr
     subst hp
     replace hS:=hS.sle [] [(75,I mE)]
     refine cW (bH.of hS (bks:=[13]) kr hD) ?_
     intro hH
     refine tke T [10,11] [13] hS hH (tts 12) 0 [72,73,74,77,75] [(79,B (mE != ((gi l_ c8).ax)))] fun a hS=>?_
     refine aS kr ?_
     replace hS:=hS.sle [] []
     exact ⟨Z,_,(mE != ((gi l_ c8).ax)),hm,hS.sl _,hO,h115,h116⟩
    replace hS:=hS.lit (t:=72) kr hb
    replace hm:=hm.2 hb
    refine tke T [5,6,8,7,9,10,11] [13] hS hH (tts 12) 0 [72] [(79,B false)] fun a hS=>?_
    refine aS kr ?_
    replace hS:=hS.sle [] []
    exact ⟨Z,_,false,hm,hS.sl _,hO,h115,h116⟩
   rintro a H8 ⟨Z,J7,fx,hm,hS,hO,h121,h122⟩
   unfold VC28_J3 at hm
   refine aG hS (b:=fx) kr (fun hb=>?_) fun hb=>?_
   ·replace hm:=hm.1 hb
    refine rP T hS ⟨[(4,I c8),(5,I 32)],[]⟩ fun a hS=>?_
    refine aY ?_
    exact fin T hS hO (fun c=>c) rfl (r:=[.int .i64 c8,.int .i64 32]) kr (fun X' hM hC=>⟨(c8,32),hm,rfl⟩)
   replace hm:=hm.2 hb
   refine aH ?_
   refine bT (fun a w=>∃ (Z:Nat->Nat) (X:Nat->Nat) (k4:Bool),VC28_J4 Q I1 μ1 c8 k4/\St Tryz.f28.ntmps ⟨[(0,Sl a1 objects c1),(1,Sl a2 l_ c2),(11,I c8),(96,B k4)],[]⟩ Z a w X/\Old w0 X0 w X/\RS aA w X a1 objects c1/\RS br w X a2 l_ c2) ?_ ?_
   ·refine gI [13] mixed hS ?_
    intro sS AJ hS hE hD hH
    replace hO:=hO.m2 hE
    replace h121:=h121.m1 hE
    replace h122:=h122.m1 hE
    refine tke T [0,1,2,3,4] [13] hS hH #[true,true,true,true,true,false,false,false,false,false,false,false,false,false,false,false] 11 [] [(85,B ((((gi l_ c8).aI).bh) == 1))] fun a hS=>?_
    rcases bft ((((gi l_ c8).aI).bh) == 1) with hb | hb
    ·replace hS:=hS.lit (t:=85) kr hb
     replace hm:=hm.1 hb
     refine tke T [5,8,9,6,10,7] [13] hS hH #[true,true,true,true,true,true,true,true,true,true,true,false,false,false,false,false] 5 [12] [(88,I (((gi l_ c8).aI).N)),(89,Sl a1 objects c1),(91,I ((gi l_ c8).ax))] fun a hS=>?_
     obtain ⟨hq,hm⟩:=hm
     refine c7 (e:=48) (k:=.i64) T 11 hS kr kr kr (by rfl) kr hH kr kr h121 kr kr hq.1 hq.2 ?_
     intro Hx a h130 hS
     have vl:=h130.here
     refine dw (off:=1) (fsz:=1) (ft:=3) (TF:=tI) (y:=(gi objects ((gi l_ c8).ax)).aw) 12 T hS kr kr kr (by rfl) kr hH kr h130 kr kr kr (fun cs h=>m6 h) ?_
     intro Hw a h132 fP hS
     have qT:=vl
     rw [← fP] at qT
     clear fP
     refine dV T 13 hS kr kr kr (by rfl) kr hH kr h132 qT rfl kr ?_
     intro v133 a hv hS
     cases hv
     refine tke T [14,15] [13] hS hH (tts 16) 0 [85,88,89,91,92,93,94] [(96,B (decide ((((gi l_ c8).aI).N)≥((gi objects ((gi l_ c8).ax)).aw))))] fun a hS=>?_
     refine aS kr ?_
     replace hS:=hS.sl ⟨[(0,Sl a1 objects c1),(1,Sl a2 l_ c2),(11,I c8),(96,B (decide ((((gi l_ c8).aI).N)≥((gi objects ((gi l_ c8).ax)).aw))))],[]⟩
     exact ⟨Z,_,decide ((((gi l_ c8).aI).N)≥((gi objects ((gi l_ c8).ax)).aw)),hm,hS.sl _,hO,h121,h122⟩
    replace hS:=hS.lit (t:=85) kr hb
    replace hm:=hm.2 hb
    refine tke T [5,8,9,6,10,7,11,12,13,14,15] [13] hS hH (tts 16) 0 [12,85] [(96,B false)] fun a hS=>?_
    refine aS kr ?_
    replace hS:=hS.sl ⟨[(0,Sl a1 objects c1),(1,Sl a2 l_ c2),(11,I c8),(96,B false)],[]⟩
    exact ⟨Z,_,false,hm,hS.sl _,hO,h121,h122⟩
   rintro a Ba ⟨Z,xE,k4,hm,hS,hO,h124,h125⟩
   unfold VC28_J4 at hm
   refine aG hS (b:=k4) kr (fun hb=>?_) fun hb=>?_
   ·replace hm:=hm.1 hb
    refine rPe T hS [0,1,11,96] [(4,I c8),(5,I 31)] fun a hS=>?_
    refine aY ?_
    exact fin T hS hO (fun c=>c) rfl (r:=[.int .i64 c8,.int .i64 31]) kr (fun X' hM hC=>⟨(c8,31),hm,rfl⟩)
   replace hm:=hm.2 hb
   refine aH ?_
   refine region (ePe T hS [96] [(11,I (wR (c8+1)))] fun a hS=>?_)
   exact ⟨wR (c8+1),⟨Z,_,hm.1,hS.sl _,hO,h124,h125⟩,hm.2⟩
  replace hm:=hm.2 hb
  refine cb (by rfl) ?_
  exact ⟨Z,_,hm,hS.sl _,hO,h116⟩
 rintro a DH ⟨Z,AG,hm,hS,hO,h114⟩
 unfold VC28_J2 at hm
 refine rPe T hS [1] [(4,I (lN l_)),(5,I 0)] fun a hS=>?_
 refine aY ?_
 exact fin T hS hO (fun c=>c) rfl (r:=[.int .i64 (lN l_),.int .i64 0]) kr (fun X' hM hC=>⟨((lN l_),0),hm,rfl⟩)
theorem C28 (GB:S45) (GA:S50) (Gy:S58) (LJ:S59) (v:∀ (objects:List ae) (l_:List az),jl objects l_->VC28 objects l_ (fun r=>r=cc objects l_)):S28:=by
 intro w X objects l_ a1 c1 a2 c2   hp h1 h2
 refine (W28 GB GA Gy LJ w X objects l_ a1 c1 a2 c2   _ (v objects l_ hp) h1 h2).mono ?_
 rintro _ _ _ _ ⟨r,rfl,h⟩
 exact h
theorem W48 (w0) (X0) (i_:Int) (am:ak) (av:Int) (a1) (c1) (a2) (c2) (b1) (i1) (b2) (i2) (Q:Bool->Prop) (hm:VC48 i_ am av Q) (h1:RS aA w0 X0 a1 am.ah c1) (h2:RS aP w0 X0 a2 am.al c2) (fw:Cell w0 X0 b1 i1 25 [.slice a1 am.ah.length c1,.slice a2 am.al.length c2]) (gF:Cell w0 X0 b2 i2 3 [.int .i64 av]) (hA:dW [i1,i2]) :
  Ret Tryz.prog 48 #[.int .i64 i_,.pointer (some ⟨b1,0,none⟩),.pointer (some ⟨b2,0,none⟩)] (pR [i1,i2]) w0 X0 (fun w X' v=>∃ r,Q r/\v=.bool r/\Cell w X' b1 i1 25 [.slice a1 am.ah.length c1,.slice a2 am.al.length c2]/\Cell w X' b2 i2 3 [.int .i64 av]):=by
 unfold VC48 at hm
 replace hm:=hm (h1.sm kr)
 replace hm:=hm (h2.sm kr)
 refine fM Tryz.func48 rfl (dH [(i1,901),(i2,902)]) (fun id=>(bif Nat.beq id 901 then b1 else (bif Nat.beq id 902 then b2 else 0))) (args:=[I i_,Pt 901 0,Pt 902 0]) (bxs:=[(901,(25,[Sl a1 am.ah c1,Sl a2 am.al c2])),(902,(3,[I av]))]) kr rfl (bn.cons kr (fw.map (bM 0 hA.1 rfl)) (bn.cons kr (gF.map (bM 1 hA.1 rfl)) bn.nil)) (fA (fun q hq=>(hA.2 q.1 (List.mem_map.2 ⟨q,hq,rfl⟩)).1)) ?_
 intro a hS hO hM
 have hP:Pin [(901,b1),(902,b2)] (fun id=>(bif Nat.beq id 901 then b1 else (bif Nat.beq id 902 then b2 else 0))):=by intro q hq; simp at hq; rcases hq with rfl | rfl <;> rfl
 generalize (fun id=>(bif Nat.beq id 901 then b1 else (bif Nat.beq id 902 then b2 else 0)))=Z at hS hP
 clear fw gF
 replace h1:=h1.m0 hM
 replace h2:=h2.m0 hM
 refine rPe T hS [] [] fun a hS=>?_
 refine dv [901,902] mixed hS ?_
 intro oE o3 hS hE hD hH
 replace hO:=hO.m2 hE
 replace h1:=h1.m1 hE
 replace h2:=h2.m1 hE
 refine tke T [0,2,6,1] [901,902] hS hH #[true,true,true,false,false,false,true,false,false] 5 [0,1,2] [(6,Sl a2 am.al c2),(7,I i_),(11,I av)] fun a hS=>?_
 obtain ⟨hq,hm⟩:=hm
 refine c7 (e:=63) (k:=.i64) T 3 hS kr kr kr (by rfl) kr hH kr kr h2 kr kr hq.1 hq.2 ?_
 intro ui a h104 hS
 have vn:=h104.here
 refine dw (off:=0) (fsz:=1) (ft:=3) (TF:=tI) (y:=(gi am.al i_).ax) 4 T hS kr kr kr (by rfl) kr hH kr h104 kr kr kr (fun cs h=>ku h) ?_
 intro xI a h106 fP hS
 have qW:=vn
 rw [← fP] at qW
 clear fP
 refine dV T 5 hS kr kr kr (by rfl) kr hH kr h106 qW rfl kr ?_
 intro v107 a hv hS
 cases hv
 refine tke T [7,8] [901,902] hS hH (tts 9) 0 [6,7,11,8,9,10] [(4,B (((gi am.al i_).ax) == av))] fun a hS=>?_
 refine aS kr ?_
 replace hS:=hS.sle [] []
 refine aY ?_
 exact gG T hS hO (fun c h=>bW kr h) (fun c h=>bX (l:=[(i1,901),(i2,902)]) h) (bR [(i1,901),(i2,902)]) rfl (r:=[.bool (((gi am.al i_).ax) == av)]) kr (fun X' hM hC=>⟨(((gi am.al i_).ax) == av),hm,rfl,((hS.cell (id:=901) (t:=25) (cs:=[Sl a1 am.ah c1,Sl a2 am.al c2]) kr).out (f:=(bR [(i1,901),(i2,902)])) hC kr kr (hP.at 0 rfl)),((hS.cell (id:=902) (t:=3) (cs:=[I av]) kr).out (f:=(bR [(i1,901),(i2,902)])) hC kr kr (hP.at 1 rfl))⟩)
theorem C48 (v:∀ (i_:Int) (am:ak) (av:Int),x4 i_ am av->VC48 i_ am av (fun r=>r=eN i_ am av)):S48:=by
 intro w X i_ am av a1 c1 a2 c2  b1 i1 b2 i2 hp h1 h2 fw gF hA
 refine (W48 w X i_ am av a1 c1 a2 c2  b1 i1 b2 i2 _ (v i_ am av hp) h1 h2 fw gF hA).mono ?_
 rintro _ _ _ _ ⟨r,rfl,h⟩
 exact h
theorem W46_48 (LQ:S48) (w0) (X0) (l_:List au) (am:ak) (av:Int) (a1) (c1) (a2) (c2) (a3) (c3) (b1) (i1) (b2) (i2) (Q:(List au)->Prop) (hm:VC46_48 l_ am av Q) (h1:RS aM w0 X0 a1 l_ c1) (h2:RS aA w0 X0 a2 am.ah c2) (h3:RS aP w0 X0 a3 am.al c3) (fw:Cell w0 X0 b1 i1 25 [.slice a2 am.ah.length c2,.slice a3 am.al.length c3]) (gF:Cell w0 X0 b2 i2 3 [.int .i64 av]) (hA:dW [i1,i2]) :
  Ret Tryz.prog 46 #[.slice a1 l_.length c1,.func (.func 48) #[] #[.pointer (some ⟨b1,0,none⟩),.pointer (some ⟨b2,0,none⟩)]] (pR [i1,i2]) w0 X0 (fun w X' v=>∃ r,Q r/\∃ cn cm,v=.slice cn r.length cm/\RS aM w X' cn r cm/\Cell w X' b1 i1 25 [.slice a2 am.ah.length c2,.slice a3 am.al.length c3]/\Cell w X' b2 i2 3 [.int .i64 av]):=by
 unfold VC46_48 at hm
 replace hm:=hm (h1.sm kr)
 replace hm:=hm (h2.sm kr)
 replace hm:=hm (h3.sm kr)
 refine fM Tryz.func46 rfl (dH [(i1,901),(i2,902)]) (fun id=>(bif Nat.beq id 901 then b1 else (bif Nat.beq id 902 then b2 else 0))) (args:=[Sl a1 l_ c1,.f (.func 48) [] [.p 901 0,.p 902 0]]) (bxs:=[(901,(25,[Sl a2 am.ah c2,Sl a3 am.al c3])),(902,(3,[I av]))]) kr rfl (bn.cons kr (fw.map (bM 0 hA.1 rfl)) (bn.cons kr (gF.map (bM 1 hA.1 rfl)) bn.nil)) (fA (fun q hq=>(hA.2 q.1 (List.mem_map.2 ⟨q,hq,rfl⟩)).1)) ?_
 intro a hS hO hM
 have hP:Pin [(901,b1),(902,b2)] (fun id=>(bif Nat.beq id 901 then b1 else (bif Nat.beq id 902 then b2 else 0))):=by intro q hq; simp at hq; rcases hq with rfl | rfl <;> rfl
 generalize (fun id=>(bif Nat.beq id 901 then b1 else (bif Nat.beq id 902 then b2 else 0)))=Z at hS hP
 clear fw gF
 replace h1:=h1.m0 hM
 replace h2:=h2.m0 hM
 replace h3:=h3.m0 hM
 refine rPe T hS [] [] fun a hS=>?_
 refine rPe T hS [] [(5,V (.slice none 0 0))] fun a hS=>?_
 refine bT (fun a w=>∃ (Z:Nat->Nat) (X:Nat->Nat) (bD:List au) (dq:Option Addr) (dl:Nat),VC46_48_J1 Q bD/\St Tryz.f46.ntmps ⟨[(5,Sl dq bD dl)],[(901,(25,[Sl a2 am.ah c2,Sl a3 am.al c3])),(902,(3,[I av]))]⟩ Z a w X/\gf (dH [(i1,901),(i2,902)]) w0 X0 w X/\Pin [(901,b1),(902,b2)] Z/\OS aM 61 w X 1005 dq bD dl/\RS aA w X a2 am.ah c2/\RS aP w X a3 am.al c3) ?_ ?_
 ·refine rPe T hS [0] [(8,Sl a1 l_ c1),(9,I (lN l_)),(10,I 0)] fun a hS=>?_
  refine aL ?_
  obtain ⟨I1,μ1,co,hm⟩:=hm
  refine cl (σ:=(List au) × Int) (fun s a w=>∃ Z X fH fG,I1 s.1 s.2/\St Tryz.f46.ntmps ⟨[(1,.f (.func 48) [] [.p 901 0,.p 902 0]),(5,Sl fH s.1 fG),(8,Sl a1 l_ c1),(9,I (lN l_)),(10,I s.2)],[(901,(25,[Sl a2 am.ah c2,Sl a3 am.al c3])),(902,(3,[I av]))]⟩ Z a w X/\gf (dH [(i1,901),(i2,902)]) w0 X0 w X/\Pin [(901,b1),(902,b2)] Z/\OS aM 61 w X 1005 fH s.1 fG/\RS aM w X a1 l_ c1/\RS aA w X a2 am.ah c2/\RS aP w X a3 am.al c3) (fun s=>μ1 s.1 s.2) (⟨[],0⟩) ?_ ?_
  ·exact ⟨Z,_,none,0,co,hS.sl _,hO,hP,(OS.nil _ _ _ _ _),h1,h2,h3⟩
  rintro ⟨cH,im⟩ a wq ⟨Z,AH,fH,fG,hI,hS,hO,hP,h112,h113,h115,h116⟩
  replace hm:=hm cH im hI
  clear hI co
  refine rPe T hS [] [(11,B (decide (im < (lN l_))))] fun a hS=>?_
  refine bc ?_
  refine aG hS (b:=decide (im < (lN l_))) kr (fun hb=>?_) fun hb=>?_
  ·replace hm:=hm.1 hb
   refine aH ?_
   refine bT (fun a w=>∃ (Z:Nat->Nat) (X:Nat->Nat) (c8:List au) (gT:Option Addr) (gS:Nat),VC46_48_J2 I1 μ1 cH im c8/\St Tryz.f46.ntmps ⟨[(1,.f (.func 48) [] [.p 901 0,.p 902 0]),(5,Sl gT c8 gS),(8,Sl a1 l_ c1),(9,I (lN l_)),(10,I im)],[(901,(25,[Sl a2 am.ah c2,Sl a3 am.al c3])),(902,(3,[I av]))]⟩ Z a w X/\gf (dH [(i1,901),(i2,902)]) w0 X0 w X/\Pin [(901,b1),(902,b2)] Z/\OS aM 61 w X 1005 gT c8 gS/\RS aM w X a1 l_ c1/\RS aA w X a2 am.ah c2/\RS aP w X a3 am.al c3) ?_ ?_
   ·refine aL ?_
    refine bj ?_
    refine oPe T hS 1 [11] [(12,I im)] fun a hS=>?_
    obtain ⟨hq,hm⟩:=hm
    refine op1 (index (e:=61) (k:=.i64) T hS kr kr kr kr h113 kr kr hq.1 hq.2 ?_)
    intro EY a h125 hS
    refine op1 (eC T hS kr kr kr h125 kr kr ?_)
    intro v126 a hv hS
    subst hv
    refine eM T hS ⟨[(1,.f (.func 48) [] [.p 901 0,.p 902 0]),(5,Sl fH cH fG),(6,I im),(7,Pt 8 0),(8,Sl a1 l_ c1),(9,I (lN l_)),(10,I im)],[(8,(61,(cE (gi l_ im)))),(901,(25,[Sl a2 am.ah c2,Sl a3 am.al c3])),(902,(3,[I av]))]⟩ fun Z a pm rk hS hE hr=>?_
    replace hO:=hO.m2 hE
    replace h112:=h112.m2 hE
    replace h113:=h113.m1 hE
    replace h115:=h115.m1 hE
    replace h116:=h116.m1 hE
    replace hP:=hP.mv hr kr
    clear hE hr
    refine bj ?_
    refine oPe T hS 2 [6] [(15,.f (.func 48) [] [.p 901 0,.p 902 0]),(16,I im)] fun a hS=>?_
    obtain ⟨hq,hm⟩:=hm
    refine op1 (kd (fi:=[]) (cp:=[.p 901 0,.p 902 0]) hS kr kr hb48 kr kr (LQ _ _ im (⟨am.ah,am.al⟩:ak) av a2 c2 a3 c3 (Z 901) 901 (Z 902) 902 hq h115 h116 (hS.cell (id:=901) (t:=25) (cs:=[Sl a2 am.ah c2,Sl a3 am.al c3]) kr) (hS.cell (id:=902) (t:=3) (cs:=[I av]) kr) ⟨by decide,by decide⟩) ?_)
    intro v127 a ru rI hE hp hS
    replace hO:=hO.m2 hE
    replace h112:=h112.m2 hE
    replace h113:=h113.m1 hE
    replace h115:=h115.m1 hE
    replace h116:=h116.m1 hE
    obtain ⟨hp,FC,FB⟩:=hp
    obtain ⟨tp,hr⟩:∃ r,eN im (⟨am.ah,am.al⟩:ak) av=r:=⟨_,rfl⟩
    replace hm:=hm tp hr
    rw [hr] at hp
    clear hr
    subst hp
    replace hS:=hS.cD (id:=901) (t:=25) (cs:=[Sl a2 am.ah c2,Sl a3 am.al c3]) kr FC
    replace hS:=hS.cD (id:=902) (t:=3) (cs:=[I av]) kr FB
    clear FC FB
    refine gX ?_
    refine aG hS (b:=tp) kr (fun hb=>?_) fun hb=>?_
    ·replace hm:=hm.1 hb
     refine region ?_
     refine oP T hS 2 ⟨[(1,.f (.func 48) [] [.p 901 0,.p 902 0]),(5,Sl fH cH fG),(8,Sl a1 l_ c1),(9,I (lN l_)),(10,I im),(18,Sl fH cH fG),(19,V (.agg #[.int .i64 ((gi l_ im).bh),.int .i64 ((gi l_ im).aj),.int .i64 ((gi l_ im).N)]))],[(901,(25,[Sl a2 am.ah c2,Sl a3 am.al c3])),(902,(3,[I av]))]⟩ fun a hS=>?_
     refine op1 (lit (E:=61) (col:=0) (T:=aM) (vals:=[.agg #[.int .i64 ((gi l_ im).bh),.int .i64 ((gi l_ im).aj),.int .i64 ((gi l_ im).N)]]) (ys:=[(gi l_ im)]) T hS kr kr kr kr (by exact ⟨rfl,trivial⟩) rfl kr kr kr kr ?_)
     intro b133 a zn xD hE h136 hN hS
     clear hN
     replace hO:=hO.m2 hE
     replace h112:=h112.m2 hE
     replace h113:=h113.m1 hE
     replace h115:=h115.m1 hE
     replace h116:=h116.m1 hE
     replace h136:=h136.rs0
     obtain ⟨hq,hm⟩:=hm
     obtain ⟨news,hN⟩:=h136.src
     refine op1 (append (E:=61) (T:=aM) (col:=1005) (xs:=cH) T hS kr kr kr kr h112 hN kr kr kr kr hq ?_)
     intro nC ny a H9 J8 hE h139 hS
     clear hq hN
     clear h112
     replace hO:=hO.m2 hE
     replace h113:=h113.m1 hE
     replace h115:=h115.m1 hE
     replace h116:=h116.m1 hE
     replace h136:=h136.m1 hE
     refine ePe T hS [19,20,21] [(5,Sl nC (cH++[(gi l_ im)]) ny)] fun a hS=>?_
     exact ⟨Z,_,cH++[(gi l_ im)],nC,ny,hm,hS.sl _,hO,hP,h139,h113,h115,h116⟩
    replace hm:=hm.2 hb
    refine aH ?_
    exact ⟨Z,_,cH,fH,fG,hm,hS.sl _,hO,hP,h112,h113,h115,h116⟩
   rintro a DI ⟨Z,Rf,c8,gT,gS,hm,hS,hO,hP,h120,h121,h122,h123⟩
   unfold VC46_48_J2 at hm
   refine region (ePe T hS [] [(10,I (wR (im+1)))] fun a hS=>?_)
   exact ⟨⟨c8,wR (im+1)⟩,⟨Z,_,gT,gS,hm.1,hS.sl _,hO,hP,h120,h121,h122,h123⟩,hm.2⟩
  replace hm:=hm.2 hb
  refine cb (by rfl) ?_
  exact ⟨Z,_,cH,fH,fG,hm,hS.sl _,hO,hP,h112,h115,h116⟩
 rintro a DH ⟨Z,AG,bD,dq,dl,hm,hS,hO,hP,h104,h105,h106⟩
 unfold VC46_48_J1 at hm
 refine rPe T hS [5] [(4,Sl dq bD dl)] fun a hS=>?_
 refine aY ?_
 obtain ⟨mc,hE,hF⟩:=h104.freeze (by decide)
 replace hS:=hS.ev hE (cr kr)
 replace hO:=hO.m2 hE
 replace h105:=h105.m1 hE
 replace h106:=h106.m1 hE
 have h108:=hF; clear hE hF
 exact gG T hS hO (fun c h=>bW kr h) (fun c h=>bX (l:=[(i1,901),(i2,902)]) h) (bR [(i1,901),(i2,902)]) rfl (r:=[.slice dq bD.length dl]) kr (fun X' hM hC=>⟨bD,hm,dq,dl,rfl,h108.m0 hM,((hS.cell (id:=901) (t:=25) (cs:=[Sl a2 am.ah c2,Sl a3 am.al c3]) kr).out (f:=(bR [(i1,901),(i2,902)])) hC kr kr (hP.at 0 rfl)),((hS.cell (id:=902) (t:=3) (cs:=[I av]) kr).out (f:=(bR [(i1,901),(i2,902)])) hC kr kr (hP.at 1 rfl))⟩)
theorem C46_48 (LQ:S48) (v:∀ (l_:List au) (am:ak) (av:Int),ya l_ am av->VC46_48 l_ am av (fun r=>r=bO l_ am av)):S46_48:=by
 intro w X l_ am av a1 c1 a2 c2 a3 c3  b1 i1 b2 i2 hp h1 h2 h3 fw gF hA
 refine (W46_48 LQ w X l_ am av a1 c1 a2 c2 a3 c3  b1 i1 b2 i2 _ (v l_ am av hp) h1 h2 h3 fw gF hA).mono ?_
 rintro _ _ _ _ ⟨r,rfl,h⟩
 exact h
theorem W17 (rD:S23) (xh:S46_48) (B2:S47) (LP:S49) (w0) (X0) (h_:ak) (k_:Int) (a1) (c1) (a2) (c2) (Q:fO->Prop) (hm:VC17 h_ k_ Q) (h1:RS aA w0 X0 a1 h_.ah c1) (h2:RS aP w0 X0 a2 h_.al c2) :
  Ret Tryz.prog 17 #[.agg #[.slice a1 h_.ah.length c1,.slice a2 h_.al.length c2],.int .i64 k_] aJ w0 X0 (fun w X' v=>∃ r,Q r/\∃ cn cm iO iM,v=.agg #[.int .i64 r.ax.ar,.int .i64 r.ax.aw,.int .i64 r.ax.aC,.slice cn r.ax.Rows.length cm,.slice iO r.al.length iM]/\RS ay w X' cn r.ax.Rows cm/\RS aM w X' iO r.al iM):=by
 unfold VC17 at hm
 replace hm:=hm (h1.sm kr)
 replace hm:=hm (h2.sm kr)
 refine enter Tryz.func17 rfl (vals:=[.agg #[.slice a1 h_.ah.length c1,.slice a2 h_.al.length c2],.int .i64 k_]) kr ?_
 intro Z a hS hO hM
 replace h1:=h1.m0 hM
 replace h2:=h2.m0 hM
 refine rM T hS ⟨[(2,Pt 3 0),(3,Pt 4 0),(4,Pt 5 0)],[(3,(25,[Sl a1 h_.ah c1,Sl a2 h_.al c2])),(4,(3,[I k_])),(5,(51,[I 0,I 0,I 0,V (.slice none 0 0),V (.slice none 0 0)]))]⟩ fun Z a pm rk hS hE hr=>?_
 replace hO:=hO.m2 hE
 replace h1:=h1.m1 hE
 replace h2:=h2.m1 hE
 clear hE hr
 refine bc ?_
 refine bj ?_
 refine oPe T hS 1 [] [(10,V (.agg #[.slice a1 h_.ah.length c1,.slice a2 h_.al.length c2]))] fun a hS=>?_
 obtain ⟨hq,hm⟩:=hm
 refine op1 (call hS kr kr hb23 kr (fun _ _=>rfl) (rD _ _ h_ a1 c1 a2 c2 hq h1 h2) ?_)
 intro v101 a eZ fa hE hp hS
 replace hO:=hO.m2 hE
 replace h1:=h1.m1 hE
 replace h2:=h2.m1 hE
 obtain ⟨ap,hr⟩:∃ r,aB h_=r:=⟨_,rfl⟩
 replace hm:=hm ap hr
 rw [hr] at hp
 clear hr
 subst hp
 refine ePe T hS [10,11] [(6,I ap.2)] fun a hS=>?_
 refine rPe T hS [6] [(26,B (((ap.2 != 0) || (decide (k_ < 0))) || (decide (k_≥(lN h_.ah)))))] (sp:=[16,20]) fun a hS=>?_
 refine aG hS (b:=(((ap.2 != 0) || (decide (k_ < 0))) || (decide (k_≥(lN h_.ah))))) kr (fun hb=>?_) fun hb=>?_
 ·replace hm:=hm.1 hb
  refine rM T hS ⟨[(4,Pt 5 0)],[(5,(51,[I 0,I 0,I 0,V (.slice none 0 0),V (.slice none 0 0)]))]⟩ fun Z a nG ms hS hE hr=>?_
  replace hO:=hO.m2 hE
  clear hE hr
  refine aY ?_
  exact fin T hS hO (fun c=>c) rfl (r:=[.agg #[.int .i64 0,.int .i64 0,.int .i64 0,.slice none 0 0,.slice none 0 0]]) kr (fun X' hM hC=>⟨(⟨(⟨0,0,0,[]⟩:ae),[]⟩:fO),hm,none,0,none,0,rfl,RS.empty _ _ _,RS.empty _ _ _⟩)
 replace hm:=hm.2 hb
 refine aH ?_
 refine bj ?_
 refine oPe T hS 1 [26] [(28,V (.agg #[.slice a1 h_.ah.length c1,.slice a2 h_.al.length c2]))] fun a hS=>?_
 obtain ⟨hq,hm⟩:=hm
 refine op1 (call hS kr kr hb47 kr (fun _ _=>rfl) (B2 _ _ h_ a1 c1 a2 c2 hq h1 h2) ?_)
 intro v107 a Gb xG hE hp hS
 replace hO:=hO.m2 hE
 replace h1:=h1.m1 hE
 replace h2:=h2.m1 hE
 obtain ⟨iG,iD,hp,h113⟩:=hp
 obtain ⟨fp,hr⟩:∃ r,bl h_=r:=⟨_,rfl⟩
 replace hm:=hm fp hr
 rw [hr] at hp h113
 clear hr
 subst hp
 replace hm:=hm (h113.sm kr)
 refine oPe T hS 1 [28] [(30,.f (.func 48) [] [.p 3 0,.p 4 0])] fun a hS=>?_
 obtain ⟨hq,hm⟩:=hm
 refine op1 (l5 hS kr kr hb46 kr (xh _ _ fp h_ k_ iG iD a1 c1 a2 c2 (Z 3) 3 (Z 4) 4 hq h113 h1 h2 (hS.cell (id:=3) (t:=25) (cs:=[Sl a1 h_.ah c1,Sl a2 h_.al c2]) kr) (hS.cell (id:=4) (t:=3) (cs:=[I k_]) kr) ⟨by decide,by decide⟩) ?_)
 intro v114 a pt ue hE hp hS
 replace hO:=hO.m2 hE
 replace h1:=h1.m1 hE
 replace h2:=h2.m1 hE
 replace h113:=h113.m1 hE
 obtain ⟨gT,gS,hp,h120,sw,vf⟩:=hp
 obtain ⟨d7,hr⟩:∃ r,bO fp h_ k_=r:=⟨_,rfl⟩
 replace hm:=hm d7 hr
 rw [hr] at hp h120
 clear hr
 subst hp
 replace hm:=hm (h120.sm kr)
 replace hS:=hS.cD (id:=3) (t:=25) (cs:=[Sl a1 h_.ah c1,Sl a2 h_.al c2]) kr sw
 replace hS:=hS.cD (id:=4) (t:=3) (cs:=[I k_]) kr vf
 clear sw vf
 refine ePe T hS [29,30,31] [(7,Sl gT d7 gS)] fun a hS=>?_
 refine bj ?_
 refine oP T hS 3 ⟨[(4,Pt 5 0),(7,Sl gT d7 gS),(33,Sl a1 h_.ah c1),(34,I k_)],[(5,(51,[I 0,I 0,I 0,V (.slice none 0 0),V (.slice none 0 0)]))]⟩ fun a hS=>?_
 obtain ⟨hq,hm⟩:=hm
 refine op1 (index (e:=48) (k:=.i64) T hS kr kr kr kr h1 kr kr hq.1 hq.2 ?_)
 intro EZ a h124 hS
 refine op1 (eC T hS kr kr kr h124 kr kr ?_)
 intro v125 a hv hS
 obtain ⟨oz,oo,hv,h128⟩:=hv
 subst hv
 replace hm:=hm (h128.sm kr)
 refine eM T hS ⟨[(4,Pt 5 0),(7,Sl gT d7 gS),(8,Pt 9 0)],[(5,(51,[I 0,I 0,I 0,V (.slice none 0 0),V (.slice none 0 0)])),(9,(48,(cO (gi h_.ah k_) oz oo)))]⟩ fun Z a ul ub hS hE hr=>?_
 replace hO:=hO.m2 hE
 replace h120:=h120.m1 hE
 replace h128:=h128.m1 hE
 clear hE hr
 refine bj ?_
 refine oPe T hS 2 [] [(38,Sl oz ((gi h_.ah k_).Rows) oo)] fun a hS=>?_
 obtain ⟨hq,hm⟩:=hm
 refine op1 (call hS kr kr hb49 kr (fun _ _=>rfl) (LP _ _ ((gi h_.ah k_).Rows) oz oo hq h128) ?_)
 intro v129 a ws EW hE hp hS
 replace hO:=hO.m2 hE
 replace h120:=h120.m1 hE
 replace h128:=h128.m1 hE
 obtain ⟨rG,rF,hp,h135⟩:=hp
 obtain ⟨iT,hr⟩:∃ r,cY ((gi h_.ah k_).Rows)=r:=⟨_,rfl⟩
 replace hm:=hm iT hr
 rw [hr] at hp h135
 clear hr
 subst hp
 replace hm:=hm (h135.sm kr)
 refine eM T hS ⟨[(4,Pt 5 0),(7,Sl gT d7 gS),(8,Pt 9 0)],[(5,(51,[I 0,I 0,I 0,V (.slice none 0 0),V (.slice none 0 0)])),(9,(48,[I ((gi h_.ah k_).ar),I ((gi h_.ah k_).aw),I ((gi h_.ah k_).aC),Sl rG iT rF]))]⟩ fun Z a A9 Df hS hE hr=>?_
 replace hO:=hO.m2 hE
 replace h120:=h120.m1 hE
 replace h135:=h135.m1 hE
 clear hE hr
 refine rM T hS ⟨[(4,Pt 5 0)],[(5,(51,[I ((gi h_.ah k_).ar),I ((gi h_.ah k_).aw),I ((gi h_.ah k_).aC),Sl rG iT rF,Sl gT d7 gS]))]⟩ fun Z a p3 rH hS hE hr=>?_
 replace hO:=hO.m2 hE
 replace h120:=h120.m1 hE
 replace h135:=h135.m1 hE
 clear hE hr
 refine aY ?_
 exact fin T hS hO (fun c=>c) rfl (r:=[.agg #[.int .i64 ((gi h_.ah k_).ar),.int .i64 ((gi h_.ah k_).aw),.int .i64 ((gi h_.ah k_).aC),.slice rG iT.length rF,.slice gT d7.length gS]]) kr (fun X' hM hC=>⟨(⟨(⟨(gi h_.ah k_).ar,(gi h_.ah k_).aw,(gi h_.ah k_).aC,iT⟩:ae),d7⟩:fO),hm,rG,rF,gT,gS,rfl,h135.m0 hM,h120.m0 hM⟩)
theorem C17 (rD:S23) (xh:S46_48) (B2:S47) (LP:S49) (v:∀ (h_:ak) (k_:Int),yg h_ k_->VC17 h_ k_ (fun r=>r=eF h_ k_)):S17:=by
 intro w X h_ k_ a1 c1 a2 c2   hp h1 h2
 refine (W17 rD xh B2 LP w X h_ k_ a1 c1 a2 c2   _ (v h_ k_ hp) h1 h2).mono ?_
 rintro _ _ _ _ ⟨r,rfl,h⟩
 exact h
theorem W24 (rD:S23) (B2:S47) (LM:S56) (w0) (X0) (h_:ak) (a1) (c1) (a2) (c2) (Q:(List ab) × (List Int)->Prop) (hm:VC24 h_ Q) (h1:RS aA w0 X0 a1 h_.ah c1) (h2:RS aP w0 X0 a2 h_.al c2) :
  Ret Tryz.prog 24 #[.agg #[.slice a1 h_.ah.length c1,.slice a2 h_.al.length c2]] aJ w0 X0 (fun w X' v=>∃ r,Q r/\∃ cn cm iO iM,v=.tuple #[.slice cn r.1.length cm,.slice iO r.2.length iM]/\RS ao w X' cn r.1 cm/\RS tI w X' iO r.2 iM):=by
 unfold VC24 at hm
 replace hm:=hm (h1.sm kr)
 replace hm:=hm (h2.sm kr)
 refine enter Tryz.func24 rfl (vals:=[.agg #[.slice a1 h_.ah.length c1,.slice a2 h_.al.length c2]]) kr ?_
 intro Z a hS hO hM
 replace h1:=h1.m0 hM
 replace h2:=h2.m0 hM
 refine rM T hS ⟨[(1,Pt 2 0)],[(2,(25,[Sl a1 h_.ah c1,Sl a2 h_.al c2]))]⟩ fun Z a DD Hn hS hE hr=>?_
 replace hO:=hO.m2 hE
 replace h1:=h1.m1 hE
 replace h2:=h2.m1 hE
 clear hE hr
 refine bc ?_
 refine bj ?_
 refine oPe T hS 1 [] [(12,V (.agg #[.slice a1 h_.ah.length c1,.slice a2 h_.al.length c2]))] fun a hS=>?_
 obtain ⟨hq,hm⟩:=hm
 refine op1 (call hS kr kr hb23 kr (fun _ _=>rfl) (rD _ _ h_ a1 c1 a2 c2 hq h1 h2) ?_)
 intro v101 a eZ fa hE hp hS
 replace hO:=hO.m2 hE
 replace h1:=h1.m1 hE
 replace h2:=h2.m1 hE
 obtain ⟨ap,hr⟩:∃ r,aB h_=r:=⟨_,rfl⟩
 replace hm:=hm ap hr
 rw [hr] at hp
 clear hr
 subst hp
 refine ePe T hS [12,13] [(5,I ap.2)] fun a hS=>?_
 refine rPe T hS [5] [(17,B (ap.2 != 0))] fun a hS=>?_
 refine aG hS (b:=(ap.2 != 0)) kr (fun hb=>?_) fun hb=>?_
 ·replace hm:=hm.1 hb
  refine rP T hS ⟨[(2,V (.slice none 0 0)),(3,V (.slice none 0 0))],[]⟩ fun a hS=>?_
  refine aY ?_
  exact fin T hS hO (fun c=>c) rfl (r:=[.slice none 0 0,.slice none 0 0]) kr (fun X' hM hC=>⟨([],[]),hm,none,0,none,0,rfl,RS.empty _ _ _,RS.empty _ _ _⟩)
 replace hm:=hm.2 hb
 refine aH ?_
 refine bj ?_
 refine oPe T hS 1 [17] [(19,V (.agg #[.slice a1 h_.ah.length c1,.slice a2 h_.al.length c2]))] fun a hS=>?_
 obtain ⟨hq,hm⟩:=hm
 refine op1 (call hS kr kr hb47 kr (fun _ _=>rfl) (B2 _ _ h_ a1 c1 a2 c2 hq h1 h2) ?_)
 intro v105 a mg mc hE hp hS
 replace hO:=hO.m2 hE
 replace h1:=h1.m1 hE
 replace h2:=h2.m1 hE
 obtain ⟨ci,ce,hp,h111⟩:=hp
 obtain ⟨aV,hr⟩:∃ r,bl h_=r:=⟨_,rfl⟩
 replace hm:=hm aV hr
 rw [hr] at hp h111
 clear hr
 subst hp
 replace hm:=hm (h111.sm kr)
 refine op1 (call hS kr kr hb56 kr (fun _ _=>rfl) (LM _ _ aV ci ce h111) ?_)
 intro v112 a ur wc hE hp hS
 replace hO:=hO.m2 hE
 replace h1:=h1.m1 hE
 replace h2:=h2.m1 hE
 replace h111:=h111.m1 hE
 obtain ⟨dA,dz,hp,h118⟩:=hp
 obtain ⟨cZ,hr⟩:∃ r,fD aV=r:=⟨_,rfl⟩
 replace hm:=hm cZ hr
 rw [hr] at hp h118
 clear hr
 subst hp
 replace hm:=hm (h118.sm kr)
 refine ePe T hS [19,20,21] [(6,Sl dA cZ.1 dz)] fun a hS=>?_
 refine rPe T hS [] [(8,V (.slice none 0 0))] fun a hS=>?_
 refine bT (fun a w=>∃ (Z:Nat->Nat) (X:Nat->Nat) (dB:List Int) (mM:Option Addr) (mJ:Nat),VC24_J1 Q cZ dB/\St Tryz.f24.ntmps ⟨[(6,Sl dA cZ.1 dz),(8,Sl mM dB mJ)],[]⟩ Z a w X/\Old w0 X0 w X/\RS ao w X dA cZ.1 dz/\OS tI 3 w X 1004 mM dB mJ) ?_ ?_
 ·refine rPe T hS [] [(24,Sl dA cZ.1 dz),(25,I (lN cZ.1)),(26,I 0)] fun a hS=>?_
  refine aL ?_
  obtain ⟨I1,μ1,co,hm⟩:=hm
  refine cl (σ:=(List Int) × Int) (fun s a w=>∃ Z X ig ie,I1 s.1 s.2/\St Tryz.f24.ntmps ⟨[(1,Pt 2 0),(6,Sl dA cZ.1 dz),(8,Sl ig s.1 ie),(24,Sl dA cZ.1 dz),(25,I (lN cZ.1)),(26,I s.2)],[(2,(25,[Sl a1 h_.ah c1,Sl a2 h_.al c2]))]⟩ Z a w X/\Old w0 X0 w X/\RS ao w X dA cZ.1 dz/\OS tI 3 w X 1004 ig s.1 ie/\RS ao w X dA cZ.1 dz/\RS aA w X a1 h_.ah c1/\RS aP w X a2 h_.al c2) (fun s=>μ1 s.1 s.2) (⟨[],0⟩) ?_ ?_
  ·exact ⟨Z,_,none,0,co,hS.sl _,hO,h118,(OS.nil _ _ _ _ _),h118,h1,h2⟩
  rintro ⟨dX,ge⟩ a DE ⟨Z,J5,ig,ie,hI,hS,hO,h126,h130,h131,h133,h134⟩
  replace hm:=hm dX ge hI
  clear hI co
  refine rPe T hS [] [(27,B (decide (ge < (lN cZ.1))))] fun a hS=>?_
  refine bc ?_
  refine aG hS (b:=decide (ge < (lN cZ.1))) kr (fun hb=>?_) fun hb=>?_
  ·replace hm:=hm.1 hb
   refine aH (bc ?_)
   refine aL ?_
   refine bj ?_
   obtain ⟨hq,hm⟩:=hm
   refine op1 (index (e:=102) (k:=.i64) T hS kr kr kr kr h131 kr kr hq.1 hq.2 ?_)
   intro Kf a h136 hS
   refine op1 (eC T hS kr kr kr h136 kr kr ?_)
   intro v137 a hv hS
   subst hv
   refine eM T hS ⟨[(1,Pt 2 0),(6,Sl dA cZ.1 dz),(8,Sl ig dX ie),(10,Pt 11 0),(24,Sl dA cZ.1 dz),(25,I (lN cZ.1)),(26,I ge)],[(2,(25,[Sl a1 h_.ah c1,Sl a2 h_.al c2])),(11,(102,(cP (gi cZ.1 ge))))]⟩ fun Z a DF EU hS hE hr=>?_
   replace hO:=hO.m2 hE
   replace h126:=h126.m1 hE
   replace h130:=h130.m2 hE
   replace h131:=h131.m1 hE
   replace h133:=h133.m1 hE
   replace h134:=h134.m1 hE
   clear hE hr
   refine region ?_
   refine oP T hS 5 ⟨[(1,Pt 2 0),(6,Sl dA cZ.1 dz),(8,Sl ig dX ie),(24,Sl dA cZ.1 dz),(25,I (lN cZ.1)),(26,I ge),(30,Sl ig dX ie),(32,Sl a2 h_.al c2),(34,I ((gi cZ.1 ge).aE))],[(2,(25,[Sl a1 h_.ah c1,Sl a2 h_.al c2]))]⟩ fun a hS=>?_
   obtain ⟨hq,hm⟩:=hm
   refine op1 (index (e:=63) (k:=.i64) T hS kr kr kr kr h134 kr kr hq.1 hq.2 ?_)
   intro Hu a h139 hS
   refine op1 (e9 (off:=0) (fsz:=1) (ft:=3) (TF:=tI) (y:=(gi h_.al ((gi cZ.1 ge).aE)).ax) T hS kr kr kr h139 kr kr kr (fun cs h=>ku h) ?_)
   intro Ht a h141 hS
   refine op1 (dU T hS kr kr kr h141 rfl kr ?_)
   intro v142 a hv hS
   cases hv
   refine op1 (lit (E:=3) (col:=0) (T:=tI) (vals:=[.int .i64 ((gi h_.al ((gi cZ.1 ge).aE)).ax)]) (ys:=[(gi h_.al ((gi cZ.1 ge).aE)).ax]) T hS kr kr kr kr (by exact ⟨rfl,trivial⟩) rfl kr kr kr kr ?_)
   intro b143 a zm ua hE h146 hN hS
   clear hN
   replace hO:=hO.m2 hE
   replace h126:=h126.m1 hE
   replace h130:=h130.m2 hE
   replace h131:=h131.m1 hE
   replace h133:=h133.m1 hE
   replace h134:=h134.m1 hE
   replace h139:=h139.m1 hE
   replace h141:=h141.m1 hE
   replace h146:=h146.rs0
   obtain ⟨hq,hm⟩:=hm
   obtain ⟨news,hN⟩:=h146.src
   refine op1 (append (E:=3) (T:=tI) (col:=1004) (xs:=dX) T hS kr kr kr kr h130 hN kr kr kr kr hq ?_)
   intro t6 tW a wq AG hE h149 hS
   clear hq hN
   clear h130
   replace hO:=hO.m2 hE
   replace h126:=h126.m1 hE
   replace h131:=h131.m1 hE
   replace h133:=h133.m1 hE
   replace h134:=h134.m1 hE
   replace h139:=h139.m1 hE
   replace h141:=h141.m1 hE
   replace h146:=h146.m1 hE
   refine ePe T hS [32,34,35,36,37,38,39] [(8,Sl t6 (dX++[(gi h_.al ((gi cZ.1 ge).aE)).ax]) tW)] fun a hS=>?_
   refine region (ePe T hS [] [(26,I (wR (ge+1)))] fun a hS=>?_)
   exact ⟨⟨dX++[(gi h_.al ((gi cZ.1 ge).aE)).ax],wR (ge+1)⟩,⟨Z,_,t6,tW,hm.1,hS.sl _,hO,h126,h149,h131,h133,h134⟩,hm.2⟩
  replace hm:=hm.2 hb
  refine cb (by rfl) ?_
  exact ⟨Z,_,dX,ig,ie,hm,hS.sl _,hO,h126,h130⟩
 rintro a sR ⟨Z,AF,dB,mM,mJ,hm,hS,hO,h119,h123⟩
 unfold VC24_J1 at hm
 refine rPe T hS [6,8] [(2,Sl dA cZ.1 dz),(3,Sl mM dB mJ)] fun a hS=>?_
 refine aY ?_
 obtain ⟨wb,hE,hF⟩:=h123.freeze (by decide)
 replace hS:=hS.ev hE (cr kr)
 replace hO:=hO.m2 hE
 replace h119:=h119.m1 hE
 have h125:=hF; clear hE hF
 exact fin T hS hO (fun c=>c) rfl (r:=[.slice dA cZ.1.length dz,.slice mM dB.length mJ]) kr (fun X' hM hC=>⟨(cZ.1,dB),hm,dA,dz,mM,mJ,rfl,h119.m0 hM,h125.m0 hM⟩)
theorem C24 (rD:S23) (B2:S47) (LM:S56) (v:∀ (h_:ak),gg h_->VC24 h_ (fun r=>r=cV h_)):S24:=by
 intro w X h_ a1 c1 a2 c2   hp h1 h2
 refine (W24 rD B2 LM w X h_ a1 c1 a2 c2   _ (v h_ hp) h1 h2).mono ?_
 rintro _ _ _ _ ⟨r,rfl,h⟩
 exact h
theorem W16 (GF:S18) (xj:S28) (GB:S45) (w0) (X0) (objects:List ae) (l_:List az) (a1) (c1) (a2) (c2) (Q:(List ab) × (List Int)->Prop) (hm:VC16 objects l_ Q) (h1:RS aA w0 X0 a1 objects c1) (h2:RS br w0 X0 a2 l_ c2) :
  Ret Tryz.prog 16 #[.slice a1 objects.length c1,.slice a2 l_.length c2] aJ w0 X0 (fun w X' v=>∃ r,Q r/\∃ cn cm iO iM,v=.tuple #[.slice cn r.1.length cm,.slice iO r.2.length iM]/\RS ao w X' cn r.1 cm/\RS tI w X' iO r.2 iM):=by
 unfold VC16 at hm
 replace hm:=hm (h1.sm kr)
 replace hm:=hm (h2.sm kr)
 refine enter Tryz.func16 rfl (vals:=[.slice a1 objects.length c1,.slice a2 l_.length c2]) kr ?_
 intro Z a hS hO hM
 replace h1:=h1.m0 hM
 replace h2:=h2.m0 hM
 refine rPe T hS [] [] fun a hS=>?_
 refine bj ?_
 refine oPe T hS 2 [0] [(13,Sl a1 objects c1),(14,Sl a2 l_ c2)] fun a hS=>?_
 obtain ⟨hq,hm⟩:=hm
 refine op1 (call hS kr kr hb28 kr (fun _ _=>rfl) (xj _ _ objects l_ a1 c1 a2 c2 hq h1 h2) ?_)
 intro v101 a eZ fa hE hp hS
 replace hO:=hO.m2 hE
 replace h1:=h1.m1 hE
 replace h2:=h2.m1 hE
 obtain ⟨ap,hr⟩:∃ r,cc objects l_=r:=⟨_,rfl⟩
 replace hm:=hm ap hr
 rw [hr] at hp
 clear hr
 subst hp
 refine ePe T hS [13,14,15] [(7,I ap.2)] fun a hS=>?_
 refine bc ?_
 refine rPe T hS [7] [(19,B (ap.2 != 0))] fun a hS=>?_
 refine aG hS (b:=(ap.2 != 0)) kr (fun hb=>?_) fun hb=>?_
 ·replace hm:=hm.1 hb
  refine rPe T hS [1,19] [(4,V (.slice none 0 0)),(5,V (.slice none 0 0))] fun a hS=>?_
  refine aY ?_
  exact fin T hS hO (fun c=>c) rfl (r:=[.slice none 0 0,.slice none 0 0]) kr (fun X' hM hC=>⟨([],[]),hm,none,0,none,0,rfl,RS.empty _ _ _,RS.empty _ _ _⟩)
 replace hm:=hm.2 hb
 refine aH ?_
 refine bj ?_
 refine oPe T hS 1 [19] [(21,Sl a2 l_ c2)] fun a hS=>?_
 obtain ⟨hq,hm⟩:=hm
 refine op1 (call hS kr kr hb45 kr (fun _ _=>rfl) (GB _ _ l_ a2 c2 hq h2) ?_)
 intro v105 a mg mc hE hp hS
 replace hO:=hO.m2 hE
 replace h2:=h2.m1 hE
 obtain ⟨ci,ce,hp,h111⟩:=hp
 obtain ⟨aV,hr⟩:∃ r,bQ l_=r:=⟨_,rfl⟩
 replace hm:=hm aV hr
 rw [hr] at hp h111
 clear hr
 subst hp
 replace hm:=hm (h111.sm kr)
 refine op1 (call hS kr kr hb18 kr (fun _ _=>rfl) (GF _ _ aV ci ce h111) ?_)
 intro v112 a ur wc hE hp hS
 replace hO:=hO.m2 hE
 replace h2:=h2.m1 hE
 replace h111:=h111.m1 hE
 obtain ⟨dA,dz,hp,h118⟩:=hp
 obtain ⟨cZ,hr⟩:∃ r,eu aV=r:=⟨_,rfl⟩
 replace hm:=hm cZ hr
 rw [hr] at hp h118
 clear hr
 subst hp
 replace hm:=hm (h118.sm kr)
 refine ePe T hS [21,22,23] [(8,Sl dA cZ.1 dz)] fun a hS=>?_
 refine rPe T hS [] [(10,V (.slice none 0 0))] fun a hS=>?_
 refine bT (fun a w=>∃ (Z:Nat->Nat) (X:Nat->Nat) (dB:List Int) (mM:Option Addr) (mJ:Nat),VC16_J1 Q cZ dB/\St Tryz.f16.ntmps ⟨[(8,Sl dA cZ.1 dz),(10,Sl mM dB mJ)],[]⟩ Z a w X/\Old w0 X0 w X/\RS ao w X dA cZ.1 dz/\OS tI 3 w X 1006 mM dB mJ) ?_ ?_
 ·refine rPe T hS [] [(11,I 0)] fun a hS=>?_
  refine aL ?_
  obtain ⟨I1,μ1,co,hm⟩:=hm
  refine cl (σ:=(List Int) × Int) (fun s a w=>∃ Z X ko kg,I1 s.1 s.2/\St Tryz.f16.ntmps ⟨[(1,Sl a2 l_ c2),(8,Sl dA cZ.1 dz),(10,Sl ko s.1 kg),(11,I s.2)],[]⟩ Z a w X/\Old w0 X0 w X/\RS br w X a2 l_ c2/\RS ao w X dA cZ.1 dz/\OS tI 3 w X 1006 ko s.1 kg) (fun s=>μ1 s.1 s.2) (⟨[],0⟩) ?_ ?_
  ·exact ⟨Z,_,none,0,co,hS.sl _,hO,h2,h118,(OS.nil _ _ _ _ _)⟩
  rintro ⟨fX,ge⟩ a zj ⟨Z,wa,ko,kg,hI,hS,hO,h126,h127,h131⟩
  replace hm:=hm fX ge hI
  clear hI co
  refine bc ?_
  refine rPe T hS [] [(29,B (decide (ge < (lN cZ.1))))] fun a hS=>?_
  refine aG hS (b:=decide (ge < (lN cZ.1))) kr (fun hb=>?_) fun hb=>?_
  ·replace hm:=hm.1 hb
   refine aH (bc ?_)
   refine aL ?_
   refine region ?_
   refine oPe T hS 4 [29] [(32,Sl ko fX kg),(33,Sl a2 l_ c2),(34,Sl dA cZ.1 dz),(35,I ge)] fun a hS=>?_
   obtain ⟨hq,hm⟩:=hm
   refine op1 (index (e:=102) (k:=.i64) T hS kr kr kr kr h127 kr kr hq.1 hq.2 ?_)
   intro NH a h134 hS
   refine op1 (e9 (off:=2) (fsz:=1) (ft:=3) (TF:=tI) (y:=(gi cZ.1 ge).aE) T hS kr kr kr h134 kr kr kr (fun cs h=>pq h) ?_)
   intro Kf a h136 hS
   refine op1 (dU T hS kr kr kr h136 rfl kr ?_)
   intro v137 a hv hS
   cases hv
   obtain ⟨hq,hm⟩:=hm
   refine op1 (index (e:=77) (k:=.i64) T hS kr kr kr kr h126 kr kr hq.1 hq.2 ?_)
   intro Hu a h139 hS
   refine op1 (e9 (off:=0) (fsz:=1) (ft:=3) (TF:=tI) (y:=(gi l_ ((gi cZ.1 ge).aE)).ax) T hS kr kr kr h139 kr kr kr (fun cs h=>kp h) ?_)
   intro Ht a h141 hS
   refine op1 (dU T hS kr kr kr h141 rfl kr ?_)
   intro v142 a hv hS
   cases hv
   refine op1 (lit (E:=3) (col:=0) (T:=tI) (vals:=[.int .i64 ((gi l_ ((gi cZ.1 ge).aE)).ax)]) (ys:=[(gi l_ ((gi cZ.1 ge).aE)).ax]) T hS kr kr kr kr (by exact ⟨rfl,trivial⟩) rfl kr kr kr kr ?_)
   intro b143 a zm ua hE h146 hN hS
   clear hN
   replace hO:=hO.m2 hE
   replace h126:=h126.m1 hE
   replace h127:=h127.m1 hE
   replace h131:=h131.m2 hE
   replace h134:=h134.m1 hE
   replace h136:=h136.m1 hE
   replace h139:=h139.m1 hE
   replace h141:=h141.m1 hE
   replace h146:=h146.rs0
   obtain ⟨hq,hm⟩:=hm
   obtain ⟨news,hN⟩:=h146.src
   refine op1 (append (E:=3) (T:=tI) (col:=1006) (xs:=fX) T hS kr kr kr kr h131 hN kr kr kr kr hq ?_)
   intro t6 tW a wq AG hE h149 hS
   clear hq hN
   clear h131
   replace hO:=hO.m2 hE
   replace h126:=h126.m1 hE
   replace h127:=h127.m1 hE
   replace h134:=h134.m1 hE
   replace h136:=h136.m1 hE
   replace h139:=h139.m1 hE
   replace h141:=h141.m1 hE
   replace h146:=h146.m1 hE
   refine ePe T hS [33,34,35,36,37,38,39,40,41,42,43] [(10,Sl t6 (fX++[(gi l_ ((gi cZ.1 ge).aE)).ax]) tW)] fun a hS=>?_
   refine region (ePe T hS [] [(11,I (wR (ge+1)))] fun a hS=>?_)
   exact ⟨⟨fX++[(gi l_ ((gi cZ.1 ge).aE)).ax],wR (ge+1)⟩,⟨Z,_,t6,tW,hm.1,hS.sl _,hO,h126,h127,h149⟩,hm.2⟩
  replace hm:=hm.2 hb
  refine cb (by rfl) ?_
  exact ⟨Z,_,fX,ko,kg,hm,hS.sl _,hO,h127,h131⟩
 rintro a DE ⟨Z,J5,dB,mM,mJ,hm,hS,hO,h119,h123⟩
 unfold VC16_J1 at hm
 refine rPe T hS [8,10] [(4,Sl dA cZ.1 dz),(5,Sl mM dB mJ)] fun a hS=>?_
 refine aY ?_
 obtain ⟨wb,hE,hF⟩:=h123.freeze (by decide)
 replace hS:=hS.ev hE (cr kr)
 replace hO:=hO.m2 hE
 replace h119:=h119.m1 hE
 have h125:=hF; clear hE hF
 exact fin T hS hO (fun c=>c) rfl (r:=[.slice dA cZ.1.length dz,.slice mM dB.length mJ]) kr (fun X' hM hC=>⟨(cZ.1,dB),hm,dA,dz,mM,mJ,rfl,h119.m0 hM,h125.m0 hM⟩)
theorem C16 (GF:S18) (xj:S28) (GB:S45) (v:∀ (objects:List ae) (l_:List az),jl objects l_->VC16 objects l_ (fun r=>r=cU objects l_)):S16:=by
 intro w X objects l_ a1 c1 a2 c2   hp h1 h2
 refine (W16 GF xj GB w X objects l_ a1 c1 a2 c2   _ (v objects l_ hp) h1 h2).mono ?_
 rintro _ _ _ _ ⟨r,rfl,h⟩
 exact h
theorem W41 (rD:S23) (B3:S24) (w0) (X0) (h_:ak) (a1) (c1) (a2) (c2) (Q:(List ab) × (List Int) × Int->Prop) (hm:VC41 h_ Q) (h1:RS aA w0 X0 a1 h_.ah c1) (h2:RS aP w0 X0 a2 h_.al c2) :
  Ret Tryz.prog 41 #[.agg #[.slice a1 h_.ah.length c1,.slice a2 h_.al.length c2]] aJ w0 X0 (fun w X' v=>∃ r,Q r/\∃ cn cm iO iM,v=.tuple #[.slice cn r.1.length cm,.slice iO r.2.1.length iM,.int .i64 r.2.2]/\RS ao w X' cn r.1 cm/\RS tI w X' iO r.2.1 iM):=by
 unfold VC41 at hm
 replace hm:=hm (h1.sm kr)
 replace hm:=hm (h2.sm kr)
 refine enter Tryz.func41 rfl (vals:=[.agg #[.slice a1 h_.ah.length c1,.slice a2 h_.al.length c2]]) kr ?_
 intro Z a hS hO hM
 replace h1:=h1.m0 hM
 replace h2:=h2.m0 hM
 refine rM T hS ⟨[(1,Pt 2 0)],[(2,(25,[Sl a1 h_.ah c1,Sl a2 h_.al c2]))]⟩ fun Z a pt ue hS hE hr=>?_
 replace hO:=hO.m2 hE
 replace h1:=h1.m1 hE
 replace h2:=h2.m1 hE
 clear hE hr
 refine bc ?_
 refine bj ?_
 refine oPe T hS 1 [] [(10,V (.agg #[.slice a1 h_.ah.length c1,.slice a2 h_.al.length c2]))] fun a hS=>?_
 obtain ⟨hq,hm⟩:=hm
 refine op1 (call hS kr kr hb23 kr (fun _ _=>rfl) (rD _ _ h_ a1 c1 a2 c2 hq h1 h2) ?_)
 intro v101 a eZ fa hE hp hS
 replace hO:=hO.m2 hE
 replace h1:=h1.m1 hE
 replace h2:=h2.m1 hE
 obtain ⟨ap,hr⟩:∃ r,aB h_=r:=⟨_,rfl⟩
 replace hm:=hm ap hr
 rw [hr] at hp
 clear hr
 subst hp
 refine ePe T hS [10,11] [(6,I ap.2)] fun a hS=>?_
 refine rPe T hS [] [(15,B (ap.2 != 0))] fun a hS=>?_
 refine aG hS (b:=(ap.2 != 0)) kr (fun hb=>?_) fun hb=>?_
 ·replace hm:=hm.1 hb
  refine rP T hS ⟨[(2,V (.slice none 0 0)),(3,V (.slice none 0 0)),(4,I ap.2)],[]⟩ fun a hS=>?_
  refine aY ?_
  exact fin T hS hO (fun c=>c) rfl (r:=[.slice none 0 0,.slice none 0 0,.int .i64 ap.2]) kr (fun X' hM hC=>⟨([],[],ap.2),hm,none,0,none,0,rfl,RS.empty _ _ _,RS.empty _ _ _⟩)
 replace hm:=hm.2 hb
 refine aH ?_
 refine bj ?_
 refine oP T hS 1 ⟨[(18,V (.agg #[.slice a1 h_.ah.length c1,.slice a2 h_.al.length c2]))],[]⟩ fun a hS=>?_
 obtain ⟨hq,hm⟩:=hm
 refine op1 (call hS kr kr hb24 kr (fun _ _=>rfl) (B3 _ _ h_ a1 c1 a2 c2 hq h1 h2) ?_)
 intro v105 a mg mc hE hp hS
 replace hO:=hO.m2 hE
 replace h1:=h1.m1 hE
 replace h2:=h2.m1 hE
 obtain ⟨ci,ce,gz,gx,hp,h111,h114⟩:=hp
 obtain ⟨aV,hr⟩:∃ r,cV h_=r:=⟨_,rfl⟩
 replace hm:=hm aV hr
 rw [hr] at hp h111 h114
 clear hr
 subst hp
 replace hm:=hm (h111.sm kr)
 replace hm:=hm (h114.sm kr)
 refine ePe T hS [18,19] [(7,Sl ci aV.1 ce),(8,Sl gz aV.2 gx)] fun a hS=>?_
 refine bc ?_
 refine rPe T hS [] [(24,B (decide ((lN aV.1) > 20)))] fun a hS=>?_
 refine aG hS (b:=decide ((lN aV.1) > 20)) kr (fun hb=>?_) fun hb=>?_
 ·replace hm:=hm.1 hb
  refine rPe T hS [7,8,24] [(2,V (.slice none 0 0)),(3,V (.slice none 0 0)),(4,I 3)] fun a hS=>?_
  refine aY ?_
  exact fin T hS hO (fun c=>c) rfl (r:=[.slice none 0 0,.slice none 0 0,.int .i64 3]) kr (fun X' hM hC=>⟨([],[],3),hm,none,0,none,0,rfl,RS.empty _ _ _,RS.empty _ _ _⟩)
 replace hm:=hm.2 hb
 refine aH ?_
 refine rPe T hS [7,8,24] [(2,Sl ci aV.1 ce),(3,Sl gz aV.2 gx),(4,I 0)] fun a hS=>?_
 refine aY ?_
 exact fin T hS hO (fun c=>c) rfl (r:=[.slice ci aV.1.length ce,.slice gz aV.2.length gx,.int .i64 0]) kr (fun X' hM hC=>⟨(aV.1,aV.2,0),hm,ci,ce,gz,gx,rfl,h111.m0 hM,h114.m0 hM⟩)
theorem C41 (rD:S23) (B3:S24) (v:∀ (h_:ak),gg h_->VC41 h_ (fun r=>r=cq h_)):S41:=by
 intro w X h_ a1 c1 a2 c2   hp h1 h2
 refine (W41 rD B3 w X h_ a1 c1 a2 c2   _ (v h_ hp) h1 h2).mono ?_
 rintro _ _ _ _ ⟨r,rfl,h⟩
 exact h
theorem W69 (w0) (X0) (of:List Int) (k_:Int) (a1) (c1) (Q:(List Int)->Prop) (hm:VC69 of k_ Q) (h1:RS tI w0 X0 a1 of c1) :
  Ret Tryz.prog 69 #[.slice a1 of.length c1,.int .i64 k_] aJ w0 X0 (fun w X' v=>∃ r,Q r/\∃ cn cm,v=.slice cn r.length cm/\RS tI w X' cn r cm):=by
 unfold VC69 at hm
 replace hm:=hm (h1.sm kr)
 refine enter Tryz.func69 rfl (vals:=[.slice a1 of.length c1,.int .i64 k_]) kr ?_
 intro Z a hS hO hM
 replace h1:=h1.m0 hM
 refine rPe T hS [] [] fun a hS=>?_
 refine rPe T hS [] [(5,V (.slice none 0 0))] fun a hS=>?_
 refine bT (fun a w=>∃ (Z:Nat->Nat) (X:Nat->Nat) (bD:List Int) (dq:Option Addr) (dl:Nat),VC69_J1 Q bD/\St Tryz.f69.ntmps ⟨[(5,Sl dq bD dl)],[]⟩ Z a w X/\Old w0 X0 w X/\OS tI 3 w X 1005 dq bD dl) ?_ ?_
 ·refine rPe T hS [0] [(8,Sl a1 of c1),(9,I (lN of)),(10,I 0)] fun a hS=>?_
  refine aL ?_
  obtain ⟨I1,μ1,co,hm⟩:=hm
  refine cl (σ:=(List Int) × Int) (fun s a w=>∃ Z X iK iJ,I1 s.1 s.2/\St Tryz.f69.ntmps ⟨[(1,I k_),(5,Sl iK s.1 iJ),(8,Sl a1 of c1),(9,I (lN of)),(10,I s.2)],[]⟩ Z a w X/\Old w0 X0 w X/\OS tI 3 w X 1005 iK s.1 iJ/\RS tI w X a1 of c1) (fun s=>μ1 s.1 s.2) (⟨[],0⟩) ?_ ?_
  ·exact ⟨Z,_,none,0,co,hS.sl _,hO,(OS.nil _ _ _ _ _),h1⟩
  rintro ⟨d3,cv⟩ a um ⟨Z,pH,iK,iJ,hI,hS,hO,h110,h111⟩
  replace hm:=hm d3 cv hI
  clear hI co
  refine rPe T hS [] [(11,B (decide (cv < (lN of))))] fun a hS=>?_
  refine bc ?_
  refine aG hS (b:=decide (cv < (lN of))) kr (fun hb=>?_) fun hb=>?_
  ·replace hm:=hm.1 hb
   refine aH ?_
   refine bT (fun a w=>∃ (Z:Nat->Nat) (X:Nat->Nat) (bd:List Int) (je:Option Addr) (i9:Nat),VC69_J2 I1 μ1 d3 cv bd/\St Tryz.f69.ntmps ⟨[(1,I k_),(5,Sl je bd i9),(8,Sl a1 of c1),(9,I (lN of)),(10,I cv)],[]⟩ Z a w X/\Old w0 X0 w X/\OS tI 3 w X 1005 je bd i9/\RS tI w X a1 of c1) ?_ ?_
   ·refine aL ?_
    refine bj ?_
    refine oPe T hS 1 [11] [(12,I cv)] fun a hS=>?_
    obtain ⟨hq,hm⟩:=hm
    refine op1 (index (e:=3) (k:=.i64) T hS kr kr kr kr h111 kr kr hq.1 hq.2 ?_)
    intro Hz a h119 hS
    refine op1 (dU T hS kr kr kr h119 rfl kr ?_)
    intro v120 a hv hS
    cases hv
    refine ePe T hS [12,13,14] [(6,I cv),(7,I (gi of cv))] fun a hS=>?_
    refine rPe T hS [7] [(17,B ((gi of cv) == k_))] fun a hS=>?_
    refine aG hS (b:=((gi of cv) == k_)) kr (fun hb=>?_) fun hb=>?_
    ·replace hm:=hm.1 hb
     refine region ?_
     refine oPe T hS 2 [6,17] [(18,Sl iK d3 iJ),(19,I cv)] fun a hS=>?_
     refine op1 (lit (E:=3) (col:=0) (T:=tI) (vals:=[.int .i64 cv]) (ys:=[cv]) T hS kr kr kr kr (by exact ⟨rfl,trivial⟩) rfl kr kr kr kr ?_)
     intro b121 a uo ud hE h124 hN hS
     clear hN
     replace hO:=hO.m2 hE
     replace h110:=h110.m2 hE
     replace h111:=h111.m1 hE
     replace h124:=h124.rs0
     obtain ⟨hq,hm⟩:=hm
     obtain ⟨news,hN⟩:=h124.src
     refine op1 (append (E:=3) (T:=tI) (col:=1005) (xs:=d3) T hS kr kr kr kr h110 hN kr kr kr kr hq ?_)
     intro ig ie a zp xF hE h127 hS
     clear hq hN
     clear h110
     replace hO:=hO.m2 hE
     replace h111:=h111.m1 hE
     replace h124:=h124.m1 hE
     refine ePe T hS [19,20,21] [(5,Sl ig (d3++[cv]) ie)] fun a hS=>?_
     exact ⟨Z,_,d3++[cv],ig,ie,hm,hS.sl _,hO,h127,h111⟩
    replace hm:=hm.2 hb
    refine aH ?_
    exact ⟨Z,_,d3,iK,iJ,hm,hS.sl _,hO,h110,h111⟩
   rintro a p4 ⟨Z,AI,bd,je,i9,hm,hS,hO,h116,h117⟩
   unfold VC69_J2 at hm
   refine region (ePe T hS [] [(10,I (wR (cv+1)))] fun a hS=>?_)
   exact ⟨⟨bd,wR (cv+1)⟩,⟨Z,_,je,i9,hm.1,hS.sl _,hO,h116,h117⟩,hm.2⟩
  replace hm:=hm.2 hb
  refine cb (by rfl) ?_
  exact ⟨Z,_,d3,iK,iJ,hm,hS.sl _,hO,h110⟩
 rintro a Ba ⟨Z,xE,bD,dq,dl,hm,hS,hO,h104⟩
 unfold VC69_J1 at hm
 refine rPe T hS [5] [(4,Sl dq bD dl)] fun a hS=>?_
 refine aY ?_
 obtain ⟨o1,hE,hF⟩:=h104.freeze (by decide)
 replace hS:=hS.ev hE (cr kr)
 replace hO:=hO.m2 hE
 have h106:=hF; clear hE hF
 exact fin T hS hO (fun c=>c) rfl (r:=[.slice dq bD.length dl]) kr (fun X' hM hC=>⟨bD,hm,dq,dl,rfl,h106.m0 hM⟩)
theorem C69 (v:∀ (of:List Int) (k_:Int),r6 of k_->VC69 of k_ (fun r=>r=bo of k_)):S69:=by
 intro w X of k_ a1 c1   hp h1
 refine (W69 w X of k_ a1 c1   _ (v of k_ hp) h1).mono ?_
 rintro _ _ _ _ ⟨r,rfl,h⟩
 exact h
theorem W72 (w0) (X0) (i_:Int) (am:List Int) (av:Int) (a1) (c1) (b1) (i1) (b2) (i2) (Q:Bool->Prop) (hm:VC72 i_ am av Q) (h1:RS tI w0 X0 a1 am c1) (fw:Cell w0 X0 b1 i1 43 [.slice a1 am.length c1]) (gF:Cell w0 X0 b2 i2 3 [.int .i64 av]) (hA:dW [i1,i2]) :
  Ret Tryz.prog 72 #[.int .i64 i_,.pointer (some ⟨b1,0,none⟩),.pointer (some ⟨b2,0,none⟩)] (pR [i1,i2]) w0 X0 (fun w X' v=>∃ r,Q r/\v=.bool r/\Cell w X' b1 i1 43 [.slice a1 am.length c1]/\Cell w X' b2 i2 3 [.int .i64 av]):=by
 unfold VC72 at hm
 replace hm:=hm (h1.sm kr)
 refine fM Tryz.func72 rfl (dH [(i1,901),(i2,902)]) (fun id=>(bif Nat.beq id 901 then b1 else (bif Nat.beq id 902 then b2 else 0))) (args:=[I i_,Pt 901 0,Pt 902 0]) (bxs:=[(901,(43,[Sl a1 am c1])),(902,(3,[I av]))]) kr rfl (bn.cons kr (fw.map (bM 0 hA.1 rfl)) (bn.cons kr (gF.map (bM 1 hA.1 rfl)) bn.nil)) (fA (fun q hq=>(hA.2 q.1 (List.mem_map.2 ⟨q,hq,rfl⟩)).1)) ?_
 intro a hS hO hM
 have hP:Pin [(901,b1),(902,b2)] (fun id=>(bif Nat.beq id 901 then b1 else (bif Nat.beq id 902 then b2 else 0))):=by intro q hq; simp at hq; rcases hq with rfl | rfl <;> rfl
 generalize (fun id=>(bif Nat.beq id 901 then b1 else (bif Nat.beq id 902 then b2 else 0)))=Z at hS hP
 clear fw gF
 replace h1:=h1.m0 hM
 refine rPe T hS [] [] fun a hS=>?_
 refine dv [901,902] mixed hS ?_
 intro oE o3 hS hE hD hH
 replace hO:=hO.m2 hE
 replace h1:=h1.m1 hE
 refine tke T [0,1,4] [901,902] hS hH #[true,true,false,false,true,false,false] 4 [0,1,2] [(5,Sl a1 am c1),(6,I i_),(9,I av)] fun a hS=>?_
 obtain ⟨hq,hm⟩:=hm
 refine c7 (e:=3) (k:=.i64) T 2 hS kr kr kr (by rfl) kr hH kr kr h1 kr kr hq.1 hq.2 ?_
 intro ui a h104 hS
 have vn:=h104.here
 refine dV T 3 hS kr kr kr (by rfl) kr hH kr h104 vn rfl kr ?_
 intro v105 a hv hS
 cases hv
 refine tke T [5,6] [901,902] hS hH (tts 7) 0 [5,6,9,7,8] [(4,B ((gi am i_) == av))] fun a hS=>?_
 refine aS kr ?_
 replace hS:=hS.sle [] []
 refine aY ?_
 exact gG T hS hO (fun c h=>bW kr h) (fun c h=>bX (l:=[(i1,901),(i2,902)]) h) (bR [(i1,901),(i2,902)]) rfl (r:=[.bool ((gi am i_) == av)]) kr (fun X' hM hC=>⟨((gi am i_) == av),hm,rfl,((hS.cell (id:=901) (t:=43) (cs:=[Sl a1 am c1]) kr).out (f:=(bR [(i1,901),(i2,902)])) hC kr kr (hP.at 0 rfl)),((hS.cell (id:=902) (t:=3) (cs:=[I av]) kr).out (f:=(bR [(i1,901),(i2,902)])) hC kr kr (hP.at 1 rfl))⟩)
theorem C72 (v:∀ (i_:Int) (am:List Int) (av:Int),tq i_ am av->VC72 i_ am av (fun r=>r=dp i_ am av)):S72:=by
 intro w X i_ am av a1 c1  b1 i1 b2 i2 hp h1 fw gF hA
 refine (W72 w X i_ am av a1 c1  b1 i1 b2 i2 _ (v i_ am av hp) h1 fw gF hA).mono ?_
 rintro _ _ _ _ ⟨r,rfl,h⟩
 exact h
theorem W71_72 (LB:S72) (w0) (X0) (l_:List ab) (am:List Int) (av:Int) (a1) (c1) (a2) (c2) (b1) (i1) (b2) (i2) (Q:(List ab)->Prop) (hm:VC71_72 l_ am av Q) (h1:RS ao w0 X0 a1 l_ c1) (h2:RS tI w0 X0 a2 am c2) (fw:Cell w0 X0 b1 i1 43 [.slice a2 am.length c2]) (gF:Cell w0 X0 b2 i2 3 [.int .i64 av]) (hA:dW [i1,i2]) :
  Ret Tryz.prog 71 #[.slice a1 l_.length c1,.func (.func 72) #[] #[.pointer (some ⟨b1,0,none⟩),.pointer (some ⟨b2,0,none⟩)]] (pR [i1,i2]) w0 X0 (fun w X' v=>∃ r,Q r/\∃ cn cm,v=.slice cn r.length cm/\RS ao w X' cn r cm/\Cell w X' b1 i1 43 [.slice a2 am.length c2]/\Cell w X' b2 i2 3 [.int .i64 av]):=by
 unfold VC71_72 at hm
 replace hm:=hm (h1.sm kr)
 replace hm:=hm (h2.sm kr)
 refine fM Tryz.func71 rfl (dH [(i1,901),(i2,902)]) (fun id=>(bif Nat.beq id 901 then b1 else (bif Nat.beq id 902 then b2 else 0))) (args:=[Sl a1 l_ c1,.f (.func 72) [] [.p 901 0,.p 902 0]]) (bxs:=[(901,(43,[Sl a2 am c2])),(902,(3,[I av]))]) kr rfl (bn.cons kr (fw.map (bM 0 hA.1 rfl)) (bn.cons kr (gF.map (bM 1 hA.1 rfl)) bn.nil)) (fA (fun q hq=>(hA.2 q.1 (List.mem_map.2 ⟨q,hq,rfl⟩)).1)) ?_
 intro a hS hO hM
 have hP:Pin [(901,b1),(902,b2)] (fun id=>(bif Nat.beq id 901 then b1 else (bif Nat.beq id 902 then b2 else 0))):=by intro q hq; simp at hq; rcases hq with rfl | rfl <;> rfl
 generalize (fun id=>(bif Nat.beq id 901 then b1 else (bif Nat.beq id 902 then b2 else 0)))=Z at hS hP
 clear fw gF
 replace h1:=h1.m0 hM
 replace h2:=h2.m0 hM
 refine rPe T hS [] [] fun a hS=>?_
 refine rPe T hS [] [(5,V (.slice none 0 0))] fun a hS=>?_
 refine bT (fun a w=>∃ (Z:Nat->Nat) (X:Nat->Nat) (bD:List ab) (dq:Option Addr) (dl:Nat),VC71_72_J1 Q bD/\St Tryz.f71.ntmps ⟨[(5,Sl dq bD dl)],[(901,(43,[Sl a2 am c2])),(902,(3,[I av]))]⟩ Z a w X/\gf (dH [(i1,901),(i2,902)]) w0 X0 w X/\Pin [(901,b1),(902,b2)] Z/\OS ao 102 w X 1005 dq bD dl/\RS tI w X a2 am c2) ?_ ?_
 ·refine rPe T hS [0] [(8,Sl a1 l_ c1),(9,I (lN l_)),(10,I 0)] fun a hS=>?_
  refine aL ?_
  obtain ⟨I1,μ1,co,hm⟩:=hm
  refine cl (σ:=(List ab) × Int) (fun s a w=>∃ Z X ci ce,I1 s.1 s.2/\St Tryz.f71.ntmps ⟨[(1,.f (.func 72) [] [.p 901 0,.p 902 0]),(5,Sl ci s.1 ce),(8,Sl a1 l_ c1),(9,I (lN l_)),(10,I s.2)],[(901,(43,[Sl a2 am c2])),(902,(3,[I av]))]⟩ Z a w X/\gf (dH [(i1,901),(i2,902)]) w0 X0 w X/\Pin [(901,b1),(902,b2)] Z/\OS ao 102 w X 1005 ci s.1 ce/\RS ao w X a1 l_ c1/\RS tI w X a2 am c2) (fun s=>μ1 s.1 s.2) (⟨[],0⟩) ?_ ?_
  ·exact ⟨Z,_,none,0,co,hS.sl _,hO,hP,(OS.nil _ _ _ _ _),h1,h2⟩
  rintro ⟨di,bd⟩ a zm ⟨Z,rk,ci,ce,hI,hS,hO,hP,h111,h112,h114⟩
  replace hm:=hm di bd hI
  clear hI co
  refine rPe T hS [] [(11,B (decide (bd < (lN l_))))] fun a hS=>?_
  refine bc ?_
  refine aG hS (b:=decide (bd < (lN l_))) kr (fun hb=>?_) fun hb=>?_
  ·replace hm:=hm.1 hb
   refine aH ?_
   refine bT (fun a w=>∃ (Z:Nat->Nat) (X:Nat->Nat) (be:List ab) (dA:Option Addr) (dz:Nat),VC71_72_J2 I1 μ1 di bd be/\St Tryz.f71.ntmps ⟨[(1,.f (.func 72) [] [.p 901 0,.p 902 0]),(5,Sl dA be dz),(8,Sl a1 l_ c1),(9,I (lN l_)),(10,I bd)],[(901,(43,[Sl a2 am c2])),(902,(3,[I av]))]⟩ Z a w X/\gf (dH [(i1,901),(i2,902)]) w0 X0 w X/\Pin [(901,b1),(902,b2)] Z/\OS ao 102 w X 1005 dA be dz/\RS ao w X a1 l_ c1/\RS tI w X a2 am c2) ?_ ?_
   ·refine aL ?_
    refine bj ?_
    refine oPe T hS 1 [11] [(12,I bd)] fun a hS=>?_
    obtain ⟨hq,hm⟩:=hm
    refine op1 (index (e:=102) (k:=.i64) T hS kr kr kr kr h112 kr kr hq.1 hq.2 ?_)
    intro Hy a h122 hS
    refine op1 (eC T hS kr kr kr h122 kr kr ?_)
    intro v123 a hv hS
    subst hv
    refine eM T hS ⟨[(1,.f (.func 72) [] [.p 901 0,.p 902 0]),(5,Sl ci di ce),(6,I bd),(7,Pt 8 0),(8,Sl a1 l_ c1),(9,I (lN l_)),(10,I bd)],[(8,(102,(cP (gi l_ bd)))),(901,(43,[Sl a2 am c2])),(902,(3,[I av]))]⟩ fun Z a rt uc hS hE hr=>?_
    replace hO:=hO.m2 hE
    replace h111:=h111.m2 hE
    replace h112:=h112.m1 hE
    replace h114:=h114.m1 hE
    replace hP:=hP.mv hr kr
    clear hE hr
    refine bj ?_
    refine oPe T hS 2 [6] [(15,.f (.func 72) [] [.p 901 0,.p 902 0]),(16,I bd)] fun a hS=>?_
    obtain ⟨hq,hm⟩:=hm
    refine op1 (kd (fi:=[]) (cp:=[.p 901 0,.p 902 0]) hS kr kr hb72 kr kr (LB _ _ bd am av a2 c2 (Z 901) 901 (Z 902) 902 hq h114 (hS.cell (id:=901) (t:=43) (cs:=[Sl a2 am c2]) kr) (hS.cell (id:=902) (t:=3) (cs:=[I av]) kr) ⟨by decide,by decide⟩) ?_)
    intro v124 a zp xF hE hp hS
    replace hO:=hO.m2 hE
    replace h111:=h111.m2 hE
    replace h112:=h112.m1 hE
    replace h114:=h114.m1 hE
    obtain ⟨hp,FD,ve⟩:=hp
    obtain ⟨zL,hr⟩:∃ r,dp bd am av=r:=⟨_,rfl⟩
    replace hm:=hm zL hr
    rw [hr] at hp
    clear hr
    subst hp
    replace hS:=hS.cD (id:=901) (t:=43) (cs:=[Sl a2 am c2]) kr FD
    replace hS:=hS.cD (id:=902) (t:=3) (cs:=[I av]) kr ve
    clear FD ve
    refine gX ?_
    refine aG hS (b:=zL) kr (fun hb=>?_) fun hb=>?_
    ·replace hm:=hm.1 hb
     refine region ?_
     refine oP T hS 2 ⟨[(1,.f (.func 72) [] [.p 901 0,.p 902 0]),(5,Sl ci di ce),(8,Sl a1 l_ c1),(9,I (lN l_)),(10,I bd),(18,Sl ci di ce),(19,V (.agg #[.int .i64 ((gi l_ bd).aj),.int .i64 ((gi l_ bd).Kind),.int .i64 ((gi l_ bd).aE),.int .i64 ((gi l_ bd).End),.int .i64 ((gi l_ bd).Result)]))],[(901,(43,[Sl a2 am c2])),(902,(3,[I av]))]⟩ fun a hS=>?_
     refine op1 (lit (E:=102) (col:=0) (T:=ao) (vals:=[.agg #[.int .i64 ((gi l_ bd).aj),.int .i64 ((gi l_ bd).Kind),.int .i64 ((gi l_ bd).aE),.int .i64 ((gi l_ bd).End),.int .i64 ((gi l_ bd).Result)]]) (ys:=[(gi l_ bd)]) T hS kr kr kr kr (by exact ⟨rfl,trivial⟩) rfl kr kr kr kr ?_)
     intro b130 a p4 pH hE h133 hN hS
     clear hN
     replace hO:=hO.m2 hE
     replace h111:=h111.m2 hE
     replace h112:=h112.m1 hE
     replace h114:=h114.m1 hE
     replace h133:=h133.rs0
     obtain ⟨hq,hm⟩:=hm
     obtain ⟨news,hN⟩:=h133.src
     refine op1 (append (E:=102) (T:=ao) (col:=1005) (xs:=di) T hS kr kr kr kr h111 hN kr kr kr kr hq ?_)
     intro JT JF a zn xD hE h136 hS
     clear hq hN
     clear h111
     replace hO:=hO.m2 hE
     replace h112:=h112.m1 hE
     replace h114:=h114.m1 hE
     replace h133:=h133.m1 hE
     refine ePe T hS [19,20,21] [(5,Sl JT (di++[(gi l_ bd)]) JF)] fun a hS=>?_
     exact ⟨Z,_,di++[(gi l_ bd)],JT,JF,hm,hS.sl _,hO,hP,h136,h112,h114⟩
    replace hm:=hm.2 hb
    refine aH ?_
    exact ⟨Z,_,di,ci,ce,hm,hS.sl _,hO,hP,h111,h112,h114⟩
   rintro a pm ⟨Z,ub,be,dA,dz,hm,hS,hO,hP,h118,h119,h120⟩
   unfold VC71_72_J2 at hm
   refine region (ePe T hS [] [(10,I (wR (bd+1)))] fun a hS=>?_)
   exact ⟨⟨be,wR (bd+1)⟩,⟨Z,_,dA,dz,hm.1,hS.sl _,hO,hP,h118,h119,h120⟩,hm.2⟩
  replace hm:=hm.2 hb
  refine cb (by rfl) ?_
  exact ⟨Z,_,di,ci,ce,hm,hS.sl _,hO,hP,h111,h114⟩
 rintro a zl ⟨Z,ua,bD,dq,dl,hm,hS,hO,hP,h104,h105⟩
 unfold VC71_72_J1 at hm
 refine rPe T hS [5] [(4,Sl dq bD dl)] fun a hS=>?_
 refine aY ?_
 obtain ⟨ms,hE,hF⟩:=h104.freeze (by decide)
 replace hS:=hS.ev hE (cr kr)
 replace hO:=hO.m2 hE
 replace h105:=h105.m1 hE
 have h107:=hF; clear hE hF
 exact gG T hS hO (fun c h=>bW kr h) (fun c h=>bX (l:=[(i1,901),(i2,902)]) h) (bR [(i1,901),(i2,902)]) rfl (r:=[.slice dq bD.length dl]) kr (fun X' hM hC=>⟨bD,hm,dq,dl,rfl,h107.m0 hM,((hS.cell (id:=901) (t:=43) (cs:=[Sl a2 am c2]) kr).out (f:=(bR [(i1,901),(i2,902)])) hC kr kr (hP.at 0 rfl)),((hS.cell (id:=902) (t:=3) (cs:=[I av]) kr).out (f:=(bR [(i1,901),(i2,902)])) hC kr kr (hP.at 1 rfl))⟩)
theorem C71_72 (LB:S72) (v:∀ (l_:List ab) (am:List Int) (av:Int),x7 l_ am av->VC71_72 l_ am av (fun r=>r=bw l_ am av)):S71_72:=by
 intro w X l_ am av a1 c1 a2 c2  b1 i1 b2 i2 hp h1 h2 fw gF hA
 refine (W71_72 LB w X l_ am av a1 c1 a2 c2  b1 i1 b2 i2 _ (v l_ am av hp) h1 h2 fw gF hA).mono ?_
 rintro _ _ _ _ ⟨r,rfl,h⟩
 exact h
theorem W42 (LD:S69) (LC:S70) (xe:S71_72) (w0) (X0) (h_:ak) (l_:List ab) (of:List Int) (a1) (c1) (a2) (c2) (a3) (c3) (a4) (c4) (Q:(List (List aa)) × Int->Prop) (hm:VC42 h_ l_ of Q) (h1:RS aA w0 X0 a1 h_.ah c1) (h2:RS aP w0 X0 a2 h_.al c2) (h3:RS ao w0 X0 a3 l_ c3) (h4:RS tI w0 X0 a4 of c4) :
  Ret Tryz.prog 42 #[.agg #[.slice a1 h_.ah.length c1,.slice a2 h_.al.length c2],.slice a3 l_.length c3,.slice a4 of.length c4] aJ w0 X0 (fun w X' v=>∃ r,Q r/\∃ cn cm,v=.tuple #[.slice cn r.1.length cm,.int .i64 r.2]/\RS (bP aq) w X' cn r.1 cm):=by
 unfold VC42 at hm
 replace hm:=hm (h1.sm kr)
 replace hm:=hm (h2.sm kr)
 replace hm:=hm (h3.sm kr)
 replace hm:=hm (h4.sm kr)
 refine enter Tryz.func42 rfl (vals:=[.agg #[.slice a1 h_.ah.length c1,.slice a2 h_.al.length c2],.slice a3 l_.length c3,.slice a4 of.length c4]) kr ?_
 intro Z a hS hO hM
 replace h1:=h1.m0 hM
 replace h2:=h2.m0 hM
 replace h3:=h3.m0 hM
 replace h4:=h4.m0 hM
 refine rM T hS ⟨[(1,Sl a3 l_ c3),(3,Pt 4 0),(5,Pt 6 0)],[(4,(25,[Sl a1 h_.ah c1,Sl a2 h_.al c2])),(6,(43,[Sl a4 of c4]))]⟩ fun Z a O7 Q9 hS hE hr=>?_
 replace hO:=hO.m2 hE
 replace h1:=h1.m1 hE
 replace h2:=h2.m1 hE
 replace h3:=h3.m1 hE
 replace h4:=h4.m1 hE
 clear hE hr
 refine rP T hS ⟨[(1,Sl a3 l_ c3),(3,Pt 4 0),(5,Pt 6 0),(8,V (.slice none 0 0))],[(4,(25,[Sl a1 h_.ah c1,Sl a2 h_.al c2])),(6,(43,[Sl a4 of c4]))]⟩ fun a hS=>?_
 refine bT (fun a w=>∃ (Z:Nat->Nat) (X:Nat->Nat) (bD:List (List aa)) (dq:Option Addr) (dl:Nat),VC42_J1 Q bD/\St Tryz.f42.ntmps ⟨[(8,Sl dq bD dl)],[]⟩ Z a w X/\Old w0 X0 w X/\OS (bP aq) 26 w X 1007 dq bD dl) ?_ ?_
 ·refine rP T hS ⟨[(1,Sl a3 l_ c3),(5,Pt 6 0),(8,V (.slice none 0 0)),(17,Sl a1 h_.ah c1),(18,I (lN h_.ah)),(19,I 0)],[(6,(43,[Sl a4 of c4]))]⟩ fun a hS=>?_
  refine aL ?_
  obtain ⟨I1,μ1,co,hm⟩:=hm
  refine cl (σ:=(List (List aa)) × Int) (fun s a w=>∃ Z X ci ce,I1 s.1 s.2/\St Tryz.f42.ntmps ⟨[(1,Sl a3 l_ c3),(5,Pt 6 0),(8,Sl ci s.1 ce),(17,Sl a1 h_.ah c1),(18,I (lN h_.ah)),(19,I s.2)],[(6,(43,[Sl a4 of c4]))]⟩ Z a w X/\Old w0 X0 w X/\RS ao w X a3 l_ c3/\OS (bP aq) 26 w X 1007 ci s.1 ce/\RS aA w X a1 h_.ah c1/\RS tI w X a4 of c4) (fun s=>μ1 s.1 s.2) (⟨[],0⟩) ?_ ?_
  ·exact ⟨Z,_,none,0,co,hS.sl _,hO,h3,(OS.nil _ _ _ _ _),h1,h4⟩
  rintro ⟨di,bd⟩ a KO ⟨Z,JV,ci,ce,hI,hS,hO,h107,h111,h112,h114⟩
  replace hm:=hm di bd hI
  clear hI co
  refine rP T hS ⟨[(1,Sl a3 l_ c3),(5,Pt 6 0),(8,Sl ci di ce),(17,Sl a1 h_.ah c1),(18,I (lN h_.ah)),(19,I bd),(20,B (decide (bd < (lN h_.ah))))],[(6,(43,[Sl a4 of c4]))]⟩ fun a hS=>?_
  refine bc ?_
  refine aG hS (b:=decide (bd < (lN h_.ah))) kr (fun hb=>?_) fun hb=>?_
  ·replace hm:=hm.1 hb
   refine aH (bc ?_)
   refine aL ?_
   refine bj ?_
   refine oP T hS 1 ⟨[(1,Sl a3 l_ c3),(5,Pt 6 0),(8,Sl ci di ce),(17,Sl a1 h_.ah c1),(18,I (lN h_.ah)),(19,I bd),(21,I bd)],[(6,(43,[Sl a4 of c4]))]⟩ fun a hS=>?_
   obtain ⟨hq,hm⟩:=hm
   refine op1 (index (e:=48) (k:=.i64) T hS kr kr kr kr h112 kr kr hq.1 hq.2 ?_)
   intro NM a h116 hS
   refine op1 (eC T hS kr kr kr h116 kr kr ?_)
   intro v117 a hv hS
   obtain ⟨gT,gS,hv,h120⟩:=hv
   subst hv
   replace hm:=hm (h120.sm kr)
   refine eM T hS ⟨[(1,Sl a3 l_ c3),(5,Pt 6 0),(8,Sl ci di ce),(9,Pt 10 0),(10,Pt 11 0),(17,Sl a1 h_.ah c1),(18,I (lN h_.ah)),(19,I bd)],[(6,(43,[Sl a4 of c4])),(10,(3,[I bd])),(11,(48,(cO (gi h_.ah bd) gT gS)))]⟩ fun Z a KR Nj hS hE hr=>?_
   replace hO:=hO.m2 hE
   replace h107:=h107.m1 hE
   replace h111:=h111.m2 hE
   replace h112:=h112.m1 hE
   replace h114:=h114.m1 hE
   replace h120:=h120.m1 hE
   clear hE hr
   refine bj ?_
   refine oP T hS 2 ⟨[(1,Sl a3 l_ c3),(5,Pt 6 0),(8,Sl ci di ce),(9,Pt 10 0),(10,Pt 11 0),(17,Sl a1 h_.ah c1),(18,I (lN h_.ah)),(19,I bd),(24,Sl a4 of c4),(25,I bd)],[(6,(43,[Sl a4 of c4])),(10,(3,[I bd])),(11,(48,(cO (gi h_.ah bd) gT gS)))]⟩ fun a hS=>?_
   obtain ⟨hq,hm⟩:=hm
   refine op1 (call hS kr kr hb69 kr (fun _ _=>rfl) (LD _ _ of bd a4 c4 hq h114) ?_)
   intro v121 a uo ud hE hp hS
   replace hO:=hO.m2 hE
   replace h107:=h107.m1 hE
   replace h111:=h111.m2 hE
   replace h112:=h112.m1 hE
   replace h114:=h114.m1 hE
   replace h120:=h120.m1 hE
   obtain ⟨iE,iC,hp,h127⟩:=hp
   obtain ⟨dF,hr⟩:∃ r,bo of bd=r:=⟨_,rfl⟩
   replace hm:=hm dF hr
   rw [hr] at hp h127
   clear hr
   subst hp
   replace hm:=hm (h127.sm kr)
   refine eP T hS ⟨[(1,Sl a3 l_ c3),(5,Pt 6 0),(8,Sl ci di ce),(9,Pt 10 0),(10,Pt 11 0),(11,Sl iE dF iC),(17,Sl a1 h_.ah c1),(18,I (lN h_.ah)),(19,I bd)],[(6,(43,[Sl a4 of c4])),(10,(3,[I bd])),(11,(48,(cO (gi h_.ah bd) gT gS)))]⟩ fun a hS=>?_
   refine dv [6,10,11] mixed hS ?_
   intro ru rI hS hE hD hH
   replace hO:=hO.m2 hE
   replace h107:=h107.m1 hE
   replace h111:=h111.m2 hE
   replace h112:=h112.m1 hE
   replace h114:=h114.m1 hE
   replace h120:=h120.m1 hE
   replace h127:=h127.m1 hE
   refine tk T [0,1,2] [6,10,11] hS hH #[true,true,true,false,false,false,false,false,false,false] 7 ⟨[(1,Sl a3 l_ c3),(5,Pt 6 0),(8,Sl ci di ce),(11,Sl iE dF iC),(17,Sl a1 h_.ah c1),(18,I (lN h_.ah)),(19,I bd),(28,V (.agg #[.int .i64 ((gi h_.ah bd).ar),.int .i64 ((gi h_.ah bd).aw),.int .i64 ((gi h_.ah bd).aC),.slice gT ((gi h_.ah bd).Rows).length gS])),(29,Sl a3 l_ c3),(30,.f (.func 72) [] [.p 6 0,.p 10 0])],[(6,(43,[Sl a4 of c4])),(10,(3,[I bd])),(11,(48,(cO (gi h_.ah bd) gT gS)))]⟩ fun a hS=>?_
   obtain ⟨hq,hm⟩:=hm
   refine only 3 kr (by rfl) (l5 hS kr kr hb71 kr (xe _ _ l_ of bd a3 c3 a4 c4 (Z 6) 6 (Z 10) 10 hq h107 h114 (hS.cell (id:=6) (t:=43) (cs:=[Sl a4 of c4]) kr) (hS.cell (id:=10) (t:=3) (cs:=[I bd]) kr) ⟨by decide,by decide⟩) ?_)
   intro v130 a p4 pH hE hp hS
   replace hO:=hO.m2 hE
   replace hD:=hD.ev hE rfl
   replace h107:=h107.m1 hE
   replace h111:=h111.m2 hE
   replace h112:=h112.m1 hE
   replace h114:=h114.m1 hE
   replace h120:=h120.m1 hE
   replace h127:=h127.m1 hE
   obtain ⟨rd,rb,hp,h136,vd,Fx⟩:=hp
   obtain ⟨jB,hr⟩:∃ r,bw l_ of bd=r:=⟨_,rfl⟩
   replace hm:=hm jB hr
   rw [hr] at hp h136
   clear hr
   subst hp
   replace hm:=hm (h136.sm kr)
   replace hS:=hS.cD (id:=6) (t:=43) (cs:=[Sl a4 of c4]) kr vd
   replace hS:=hS.cD (id:=10) (t:=3) (cs:=[I bd]) kr Fx
   clear vd Fx
   replace hS:=hS.sl ⟨[(1,Sl a3 l_ c3),(5,Pt 6 0),(8,Sl ci di ce),(11,Sl iE dF iC),(17,Sl a1 h_.ah c1),(18,I (lN h_.ah)),(19,I bd),(28,V (.agg #[.int .i64 ((gi h_.ah bd).ar),.int .i64 ((gi h_.ah bd).aw),.int .i64 ((gi h_.ah bd).aC),.slice gT ((gi h_.ah bd).Rows).length gS])),(29,Sl a3 l_ c3),(30,.f (.func 72) [] [.p 6 0,.p 10 0]),(31,Sl rd jB rb)],[(6,(43,[Sl a4 of c4])),(10,(3,[I bd])),(11,(48,(cO (gi h_.ah bd) gT gS)))]⟩
   refine cW (bH.of hS (bks:=[6,10,11]) kr hD) ?_
   intro hH
   obtain ⟨hq,hm⟩:=hm
   refine only 4 kr (by rfl) (call hS kr kr hb70 kr (fun _ _=>rfl) (LC _ _ (gi h_.ah bd) jB gT gS rd rb 1013 hq h120 h136) ?_)
   intro v139 a ul ub hE hp hS
   replace hO:=hO.m2 hE
   replace hD:=hD.ev hE rfl
   replace h107:=h107.m1 hE
   replace h111:=h111.m2 hE
   replace h112:=h112.m1 hE
   replace h114:=h114.m1 hE
   replace h120:=h120.m1 hE
   replace h127:=h127.m1 hE
   replace h136:=h136.m1 hE
   obtain ⟨kD,kB,hp,h145⟩:=hp
   obtain ⟨bV,hr⟩:∃ r,bk (gi h_.ah bd) jB=r:=⟨_,rfl⟩
   replace hm:=hm bV hr
   rw [hr] at hp h145
   clear hr
   subst hp
   replace hm:=hm (h145.sm kr)
   replace hS:=hS.sl ⟨[(1,Sl a3 l_ c3),(5,Pt 6 0),(8,Sl ci di ce),(11,Sl iE dF iC),(17,Sl a1 h_.ah c1),(18,I (lN h_.ah)),(19,I bd),(28,V (.agg #[.int .i64 ((gi h_.ah bd).ar),.int .i64 ((gi h_.ah bd).aw),.int .i64 ((gi h_.ah bd).aC),.slice gT ((gi h_.ah bd).Rows).length gS])),(29,Sl a3 l_ c3),(30,.f (.func 72) [] [.p 6 0,.p 10 0]),(31,Sl rd jB rb),(32,V (.tuple #[.slice kD bV.1.length kB,.int .i64 bV.2]))],[(6,(43,[Sl a4 of c4])),(10,(3,[I bd])),(11,(48,(cO (gi h_.ah bd) gT gS)))]⟩
   refine cW (bH.of hS (bks:=[6,10,11]) kr hD) ?_
   intro hH
   refine tk T [5,6,7,8,9] [6,10,11] hS hH #[true,true,true,true,true,true,true,true,true,true] 0 ⟨[(1,Sl a3 l_ c3),(5,Pt 6 0),(8,Sl ci di ce),(11,Sl iE dF iC),(12,Sl kD bV.1 kB),(13,I bV.2),(17,Sl a1 h_.ah c1),(18,I (lN h_.ah)),(19,I bd)],[(6,(43,[Sl a4 of c4])),(10,(3,[I bd])),(11,(48,(cO (gi h_.ah bd) gT gS)))]⟩ fun a hS=>?_
   refine aS kr ?_
   replace hS:=hS.sl ⟨[(1,Sl a3 l_ c3),(5,Pt 6 0),(8,Sl ci di ce),(11,Sl iE dF iC),(12,Sl kD bV.1 kB),(13,I bV.2),(17,Sl a1 h_.ah c1),(18,I (lN h_.ah)),(19,I bd)],[(6,(43,[Sl a4 of c4]))]⟩
   refine bc (rP T hS ⟨[(1,Sl a3 l_ c3),(5,Pt 6 0),(8,Sl ci di ce),(11,Sl iE dF iC),(12,Sl kD bV.1 kB),(13,I bV.2),(17,Sl a1 h_.ah c1),(18,I (lN h_.ah)),(19,I bd),(36,B (bV.2 != 0))],[(6,(43,[Sl a4 of c4]))]⟩ fun a hS=>?_)
   refine aG hS (b:=(bV.2 != 0)) kr (fun hb=>?_) fun hb=>?_
   ·replace hm:=hm.1 hb
    refine rP T hS ⟨[(6,V (.slice none 0 0)),(7,I bV.2)],[]⟩ fun a hS=>?_
    refine aY ?_
    exact fin T hS hO (fun c=>c) rfl (r:=[.slice none 0 0,.int .i64 bV.2]) kr (fun X' hM hC=>⟨([],bV.2),hm,none,0,rfl,RS.empty _ _ _⟩)
   replace hm:=hm.2 hb
   refine aH ?_
   refine bT (fun a w=>∃ (Z:Nat->Nat) (X:Nat->Nat) (dZ:List (List aa)) (fQ:List aa) (Db:Option Addr) (CT:Nat) (AC:Option Addr) (Ar:Nat),VC42_J2 I1 μ1 di bd dZ fQ/\St Tryz.f42.ntmps ⟨[(1,Sl a3 l_ c3),(5,Pt 6 0),(8,Sl Db dZ CT),(12,Sl AC fQ Ar),(17,Sl a1 h_.ah c1),(18,I (lN h_.ah)),(19,I bd)],[(6,(43,[Sl a4 of c4]))]⟩ Z a w X/\Old w0 X0 w X/\RS ao w X a3 l_ c3/\OS (bP aq) 26 w X 1007 Db dZ CT/\OS aq 56 w X 1013 AC fQ Ar/\RS aA w X a1 h_.ah c1/\RS tI w X a4 of c4) ?_ ?_
   ·refine rP T hS ⟨[(1,Sl a3 l_ c3),(5,Pt 6 0),(8,Sl ci di ce),(11,Sl iE dF iC),(12,Sl kD bV.1 kB),(17,Sl a1 h_.ah c1),(18,I (lN h_.ah)),(19,I bd),(38,Sl kD bV.1 kB),(39,I (lN bV.1)),(40,I 0)],[(6,(43,[Sl a4 of c4]))]⟩ fun a hS=>?_
    refine aL ?_
    obtain ⟨I2,μ2,co,hm⟩:=hm
    refine cl (σ:=(List (List aa)) × (List aa) × Int) (fun s a w=>∃ Z X pG pD km kf,I2 s.1 s.2.1 s.2.2/\St Tryz.f42.ntmps ⟨[(1,Sl a3 l_ c3),(5,Pt 6 0),(8,Sl pG s.1 pD),(11,Sl iE dF iC),(12,Sl km s.2.1 kf),(17,Sl a1 h_.ah c1),(18,I (lN h_.ah)),(19,I bd),(38,Sl km s.2.1 kf),(39,I (lN bV.1)),(40,I s.2.2)],[(6,(43,[Sl a4 of c4]))]⟩ Z a w X/\Old w0 X0 w X/\RS ao w X a3 l_ c3/\OS (bP aq) 26 w X 1007 pG s.1 pD/\RS tI w X iE dF iC/\OS aq 56 w X 1013 km s.2.1 kf/\RS aA w X a1 h_.ah c1/\RS tI w X a4 of c4) (fun s=>μ2 s.1 s.2.1 s.2.2) (⟨di,bV.1,0⟩) ?_ ?_
    ·exact ⟨Z,_,ci,ce,kD,kB,co,hS.sl _,hO,h107,h111,h127,h145,h112,h114⟩
    rintro ⟨mA,gB,fV⟩ a O9 ⟨Z,Ra,pG,pD,km,kf,hI,hS,hO,h168,h172,h173,h177,h178,h180⟩
    replace hm:=hm mA gB fV hI
    clear hI co
    refine rP T hS ⟨[(1,Sl a3 l_ c3),(5,Pt 6 0),(8,Sl pG mA pD),(11,Sl iE dF iC),(12,Sl km gB kf),(17,Sl a1 h_.ah c1),(18,I (lN h_.ah)),(19,I bd),(38,Sl km gB kf),(39,I (lN bV.1)),(40,I fV),(41,B (decide (fV < (lN bV.1))))],[(6,(43,[Sl a4 of c4]))]⟩ fun a hS=>?_
    refine bc ?_
    refine aG hS (b:=decide (fV < (lN bV.1))) kr (fun hb=>?_) fun hb=>?_
    ·replace hm:=hm.1 hb
     refine aH (bc ?_)
     refine aL ?_
     refine bj ?_
     refine oP T hS 1 ⟨[(1,Sl a3 l_ c3),(5,Pt 6 0),(8,Sl pG mA pD),(11,Sl iE dF iC),(12,Sl km gB kf),(17,Sl a1 h_.ah c1),(18,I (lN h_.ah)),(19,I bd),(38,Sl km gB kf),(39,I (lN bV.1)),(40,I fV),(42,I fV)],[(6,(43,[Sl a4 of c4]))]⟩ fun a hS=>?_
     obtain ⟨Fi,hm⟩:=hm
     refine op1 (nr (E:=56) (k:=.i64) T hS kr kr kr kr h177 kr kr Fi.1 Fi.2 ?_)
     intro NC a h183 h182 hS
     refine op1 (BZ T hS kr kr kr h182 kr kr ?_)
     intro v185 a hv hS
     subst hv
     refine eM T hS ⟨[(1,Sl a3 l_ c3),(5,Pt 6 0),(8,Sl pG mA pD),(11,Sl iE dF iC),(12,Sl km gB kf),(14,I fV),(15,Pt 16 0),(17,Sl a1 h_.ah c1),(18,I (lN h_.ah)),(19,I bd),(38,Sl km gB kf),(39,I (lN bV.1)),(40,I fV)],[(6,(43,[Sl a4 of c4])),(16,(56,(cK (gi gB fV))))]⟩ fun Z a HU JX hS hE hr=>?_
     replace hO:=hO.m2 hE
     replace h168:=h168.m1 hE
     replace h172:=h172.m2 hE
     replace h173:=h173.m1 hE
     replace h177:=h177.m2 hE
     replace h178:=h178.m1 hE
     replace h180:=h180.m1 hE
     clear hE hr
     refine region ?_
     refine oP T hS 5 ⟨[(1,Sl a3 l_ c3),(5,Pt 6 0),(8,Sl pG mA pD),(11,Sl iE dF iC),(12,Sl km gB kf),(17,Sl a1 h_.ah c1),(18,I (lN h_.ah)),(19,I bd),(38,Sl km gB kf),(39,I (lN bV.1)),(40,I fV),(45,Sl km gB kf),(46,I fV),(47,Sl iE dF iC),(49,I ((gi gB fV).Oper))],[(6,(43,[Sl a4 of c4]))]⟩ fun a hS=>?_
     obtain ⟨hq,hm⟩:=hm
     refine op1 (index (e:=3) (k:=.i64) T hS kr kr kr kr h173 kr kr hq.1 hq.2 ?_)
     intro RD a h187 hS
     refine op1 (dU T hS kr kr kr h187 rfl kr ?_)
     intro v188 a hv hS
     cases hv
     obtain ⟨yE,hm⟩:=hm
     refine op1 (nr (E:=56) (k:=.i64) T hS kr kr kr kr h177 kr kr yE.1 yE.2 ?_)
     intro RA a h191 h190 hS
     have h192:=h191.ad
     clear h191 h190
     refine op1 (tS (off:=0) (fsz:=1) (ft:=3) T hS kr kr kr h192 kr kr ?_)
     intro Rx a h195 hS
     refine op1 (sZ (m:=1) (off:=0) (x:=(⟨gi dF ((gi gB fV).Oper),(gi gB fV).Result⟩:aa)) (v:=I (gi dF ((gi gB fV).Oper))) (i:=fV.toNat) (E:=56) (xs:=gB) T hS kr kr kr kr h177 h195 (by have:=yE.1; have:=yE.2; (try simp only [List.length_set]); omega) kr kr rfl (fun _ _ _ h=>by cases h; rfl) ?_)
     intro a KT hE h197 hS
     clear h177
     replace hO:=hO.m2 hE
     replace h168:=h168.m1 hE
     replace h172:=h172.m2 hE
     replace h173:=h173.m1 hE
     replace h178:=h178.m1 hE
     replace h180:=h180.m1 hE
     replace h187:=h187.m1 hE
     replace hS:=hS.conv (t:=12) (y:=.slice km (gB.set fV.toNat (⟨gi dF ((gi gB fV).Oper),(gi gB fV).Result⟩:aa)).length kf) kr (by rw [List.length_set])
     replace hS:=hS.conv (t:=38) (y:=.slice km (gB.set fV.toNat (⟨gi dF ((gi gB fV).Oper),(gi gB fV).Result⟩:aa)).length kf) kr (by rw [List.length_set])
     replace hS:=hS.conv (t:=45) (y:=.slice km (gB.set fV.toNat (⟨gi dF ((gi gB fV).Oper),(gi gB fV).Result⟩:aa)).length kf) kr (by rw [List.length_set])
     refine gX ?_
     refine region (eP T hS ⟨[(1,Sl a3 l_ c3),(5,Pt 6 0),(8,Sl pG mA pD),(11,Sl iE dF iC),(12,Sl km (gB.set fV.toNat (⟨gi dF ((gi gB fV).Oper),(gi gB fV).Result⟩:aa)) kf),(17,Sl a1 h_.ah c1),(18,I (lN h_.ah)),(19,I bd),(38,Sl km (gB.set fV.toNat (⟨gi dF ((gi gB fV).Oper),(gi gB fV).Result⟩:aa)) kf),(39,I (lN bV.1)),(40,I (wR (fV+1)))],[(6,(43,[Sl a4 of c4]))]⟩ fun a hS=>?_)
     exact ⟨⟨mA,(gB.set fV.toNat (⟨gi dF ((gi gB fV).Oper),(gi gB fV).Result⟩:aa)),wR (fV+1)⟩,⟨Z,_,pG,pD,km,kf,hm.1,hS.sl _,hO,h168,h172,h173,h197,h178,h180⟩,hm.2⟩
    replace hm:=hm.2 hb
    refine cb (by rfl) ?_
    exact ⟨Z,_,mA,gB,pG,pD,km,kf,hm,hS.sl _,hO,h168,h172,h177,h178,h180⟩
   rintro a HS ⟨Z,Nl,dZ,fQ,Db,CT,AC,Ar,hm,hS,hO,h146,h150,h154,h155,h156⟩
   unfold VC42_J2 at hm
   refine region ?_
   refine oP T hS 2 ⟨[(1,Sl a3 l_ c3),(5,Pt 6 0),(8,Sl Db dZ CT),(17,Sl a1 h_.ah c1),(18,I (lN h_.ah)),(19,I bd),(55,Sl Db dZ CT),(56,Sl AC fQ Ar)],[(6,(43,[Sl a4 of c4]))]⟩ fun a hS=>?_
   obtain ⟨Ho,hE,hF⟩:=h154.freeze (by decide)
   replace hS:=hS.ev hE (cr kr)
   replace hO:=hO.m2 hE
   replace h146:=h146.m1 hE
   replace h150:=h150.m2 hE
   replace h155:=h155.m1 hE
   replace h156:=h156.m1 hE
   have h158:=hF; clear hE hF
   refine op1 (lit (E:=26) (col:=0) (T:=(bP aq)) (vals:=[.slice AC fQ.length Ar]) (ys:=[fQ]) T hS kr kr kr kr (by exact ⟨⟨AC,Ar,rfl,h158⟩,trivial⟩) rfl kr kr kr kr ?_)
   intro b159 a zi AE hE h162 hN hS
   clear hN
   replace hO:=hO.m2 hE
   replace h146:=h146.m1 hE
   replace h150:=h150.m2 hE
   replace h155:=h155.m1 hE
   replace h156:=h156.m1 hE
   replace h158:=h158.m1 hE
   replace h162:=h162.rs0
   obtain ⟨hq,hm⟩:=hm
   obtain ⟨news,hN⟩:=h162.src
   refine op1 (append (E:=26) (T:=(bP aq)) (col:=1007) (xs:=dZ) T hS kr kr kr kr h150 hN kr kr kr kr hq ?_)
   intro Hg Hc a F7 De hE h165 hS
   clear hq hN
   clear h150
   replace hO:=hO.m2 hE
   replace h146:=h146.m1 hE
   replace h155:=h155.m1 hE
   replace h156:=h156.m1 hE
   replace h158:=h158.m1 hE
   replace h162:=h162.m1 hE
   refine eP T hS ⟨[(1,Sl a3 l_ c3),(5,Pt 6 0),(8,Sl Hg (dZ++[fQ]) Hc),(17,Sl a1 h_.ah c1),(18,I (lN h_.ah)),(19,I bd)],[(6,(43,[Sl a4 of c4]))]⟩ fun a hS=>?_
   refine region (eP T hS ⟨[(1,Sl a3 l_ c3),(5,Pt 6 0),(8,Sl Hg (dZ++[fQ]) Hc),(17,Sl a1 h_.ah c1),(18,I (lN h_.ah)),(19,I (wR (bd+1)))],[(6,(43,[Sl a4 of c4]))]⟩ fun a hS=>?_)
   exact ⟨⟨dZ++[fQ],wR (bd+1)⟩,⟨Z,_,Hg,Hc,hm.1,hS.sl _,hO,h146,h165,h155,h156⟩,hm.2⟩
  replace hm:=hm.2 hb
  refine cb (by rfl) ?_
  exact ⟨Z,_,di,ci,ce,hm,hS.sl _,hO,h111⟩
 rintro a HR ⟨Z,Nh,bD,dq,dl,hm,hS,hO,h104⟩
 unfold VC42_J1 at hm
 refine rP T hS ⟨[(6,Sl dq bD dl),(7,I 0)],[]⟩ fun a hS=>?_
 refine aY ?_
 obtain ⟨o1,hE,hF⟩:=h104.freeze (by decide)
 replace hS:=hS.ev hE (cr kr)
 replace hO:=hO.m2 hE
 have h106:=hF; clear hE hF
 exact fin T hS hO (fun c=>c) rfl (r:=[.slice dq bD.length dl,.int .i64 0]) kr (fun X' hM hC=>⟨(bD,0),hm,dq,dl,rfl,h106.m0 hM⟩)
theorem C42 (LD:S69) (LC:S70) (xe:S71_72) (v:∀ (h_:ak) (l_:List ab) (of:List Int),x3 h_ l_ of->VC42 h_ l_ of (fun r=>r=cC h_ l_ of)):S42:=by
 intro w X h_ l_ of a1 c1 a2 c2 a3 c3 a4 c4   hp h1 h2 h3 h4
 refine (W42 LD LC xe w X h_ l_ of a1 c1 a2 c2 a3 c3 a4 c4   _ (v h_ l_ of hp) h1 h2 h3 h4).mono ?_
 rintro _ _ _ _ ⟨r,rfl,h⟩
 exact h
theorem W91 (w0) (X0) (n_:Int) (cG) (Q:(List aa)->Prop) (hm:VC91 n_ Q) :
  Ret Tryz.prog 91 #[.slice none 0 0,.int .i64 n_] aJ w0 X0 (fun w X' v=>∃ r,Q r/\∃ cn cm,v=.slice cn r.length cm/\OS aq 56 w X' cG cn r cm):=by
 unfold VC91 at hm
 refine enter Tryz.func91 rfl (vals:=[.slice none 0 0,.int .i64 n_]) kr ?_
 intro Z a hS hO hM
 refine rPe T hS [] [] fun a hS=>?_
 refine bc ?_
 refine rPe T hS [] [(6,B (decide (n_ < 0)))] fun a hS=>?_
 refine aG hS (b:=decide (n_ < 0)) kr (fun hb=>?_) fun hb=>?_
 ·replace hm:=hm.1 hb
  exact hm.elim
 replace hm:=hm.2 hb
 refine aH ?_
 refine bT (fun a w=>∃ (Z:Nat->Nat) (X:Nat->Nat) (bD:List aa) (dq:Option Addr) (dl:Nat),VC91_J1 Q bD/\St Tryz.f91.ntmps ⟨[(0,Sl dq bD dl)],[]⟩ Z a w X/\Old w0 X0 w X/\OS aq 56 w X 1001 dq bD dl) ?_ ?_
 ·refine bj ?_
  refine oPe T hS 2 [6] [(8,I n_),(9,V (.slice none 0 0))] fun a hS=>?_
  refine op1 (Ju (E:=56) T hS kr kr kr kr ?_)
  intro a hS
  refine ePe T hS [8,9,10] [(1,I (wR (n_ - (wR (0 - 0)))))] fun a hS=>?_
  refine rPe T hS [] [(16,B (decide ((wR (n_ - (wR (0 - 0)))) > 0)))] fun a hS=>?_
  refine aG hS (b:=decide ((wR (n_ - (wR (0 - 0)))) > 0)) kr (fun hb=>?_) fun hb=>?_
  ·replace hm:=hm.1 hb
   refine region ?_
   refine oPe T hS 2 [16] [(17,V (.slice none 0 0)),(18,V (.slice none 0 0))] fun a hS=>?_
   refine op1 (Ju (E:=56) T hS kr kr kr kr ?_)
   intro a hS
   obtain ⟨hq,hm⟩:=hm
   refine op1 (Bk (k:=.i64) (E:=56) (col:=1001) (T:=aq) (xs:=([]:List aa)) (ad:=none) (c:=0) T hS kr kr kr kr (OS.nil _ _ _ _ _) kr kr hq.1 hq.2 ?_)
   intro a h105 hS
   clear h105
   replace hS:=hS.conv (t:=20) (y:=.slice none 0 0) kr (by rfl)
   refine oPe T hS 1 [1,17,18,19] [(21,I (wR (n_ - (wR (0 - 0)))))] fun a hS=>?_
   obtain ⟨hq,hm⟩:=hm
   refine op1 (EH (kn:=.i64) (E:=56) (T:=aq) (col:=1001) (m:=wR (n_ - (wR (0 - 0)))) T (⟨0,0⟩:aa) hS kr kr kr kr kr kr kr kr kr hq.1 hq.2 (fun _ _=>rfl) ?_)
   intro ci ce a mg mc hE h108 hS
   replace hO:=hO.m2 hE
   refine oPe T hS 2 [20,21] [(24,I 0)] fun a hS=>?_
   obtain ⟨hq,hm⟩:=hm
   refine op1 (Bk (k:=.i64) (E:=56) (col:=1001) (T:=aq) (xs:=List.replicate (wR (n_ - (wR (0 - 0)))).toNat (⟨0,0⟩:aa)) (ad:=ci) (c:=ce) T hS kr kr kr kr h108 kr kr hq.1 hq.2 ?_)
   intro a h111 hS
   clear h108
   refine ePe T hS [24,25] [(0,Sl ci ((List.replicate (wR (n_ - (wR (0 - 0)))).toNat (⟨0,0⟩:aa)).take (0:Int).toNat) ce)] fun a hS=>?_
   exact ⟨Z,_,(List.replicate (wR (n_ - (wR (0 - 0)))).toNat (⟨0,0⟩:aa)).take (0:Int).toNat,ci,ce,hm,hS.sl _,hO,h111⟩
  replace hm:=hm.2 hb
  refine aH ?_
  exact ⟨Z,_,[],none,0,hm,hS.sl _,hO,(OS.nil _ _ _ _ _)⟩
 rintro a ur ⟨Z,rJ,bD,dq,dl,hm,hS,hO,h104⟩
 unfold VC91_J1 at hm
 refine rPe T hS [0] [(4,Sl dq bD dl)] fun a hS=>?_
 refine aY ?_
 exact fin T hS hO (zAf0 cG) rfl (r:=[.slice dq bD.length dl]) kr (fun X' hM hC=>⟨bD,hm,dq,dl,rfl,(OS.out (f:=(zAf0 cG)) h104 hM hC kr)⟩)
theorem C91 (v:∀ (n_:Int),yh n_->VC91 n_ (fun r=>r=ct n_)):S91:=by
 intro w X n_  cG  hp 
 refine (W91 w X n_  cG  _ (v n_ hp)).mono ?_
 rintro _ _ _ _ ⟨r,rfl,h⟩
 exact h
theorem W73 (Lp:S91) (w0) (X0) (bU:List (List aa)) (a1) (c1) (Q:(List aa)->Prop) (hm:VC73 bU Q) (h1:RS (bP aq) w0 X0 a1 bU c1) :
  Ret Tryz.prog 73 #[.slice a1 bU.length c1] aJ w0 X0 (fun w X' v=>∃ r,Q r/\∃ cn cm,v=.slice cn r.length cm/\RS aq w X' cn r cm):=by
 unfold VC73 at hm
 replace hm:=hm (h1.sm kr)
 refine enter Tryz.func73 rfl (vals:=[.slice a1 bU.length c1]) kr ?_
 intro Z a hS hO hM
 replace h1:=h1.m0 hM
 refine rPe T hS [] [] fun a hS=>?_
 refine rPe T hS [] [(3,I 0)] fun a hS=>?_
 refine bT (fun a w=>∃ (Z:Nat->Nat) (X:Nat->Nat) (bu:Int),VC73_J1 bU Q bu/\St Tryz.f73.ntmps ⟨[(0,Sl a1 bU c1),(3,I bu)],[]⟩ Z a w X/\Old w0 X0 w X/\RS (bP aq) w X a1 bU c1) ?_ ?_
 ·refine rPe T hS [] [(9,Sl a1 bU c1),(10,I (lN bU)),(11,I 0)] fun a hS=>?_
  refine aL ?_
  obtain ⟨I2,μ2,co,hm⟩:=hm
  refine cl (σ:=Int × Int) (fun s a w=>∃ Z X,I2 s.1 s.2/\St Tryz.f73.ntmps ⟨[(0,Sl a1 bU c1),(3,I s.1),(9,Sl a1 bU c1),(10,I (lN bU)),(11,I s.2)],[]⟩ Z a w X/\Old w0 X0 w X/\RS (bP aq) w X a1 bU c1/\RS (bP aq) w X a1 bU c1) (fun s=>μ2 s.1 s.2) (⟨0,0⟩) ?_ ?_
  ·exact ⟨Z,_,co,hS.sl _,hO,h1,h1⟩
  rintro ⟨pZ,rq⟩ a zk ⟨Z,Hp,hI,hS,hO,h137,h139⟩
  replace hm:=hm pZ rq hI
  clear hI co
  refine rPe T hS [] [(12,B (decide (rq < (lN bU))))] fun a hS=>?_
  refine bc ?_
  refine aG hS (b:=decide (rq < (lN bU))) kr (fun hb=>?_) fun hb=>?_
  ·replace hm:=hm.1 hb
   refine aH (bc ?_)
   refine aL ?_
   refine bj ?_
   obtain ⟨hq,hm⟩:=hm
   refine op1 (index (e:=26) (k:=.i64) T hS kr kr kr kr h139 kr kr hq.1 hq.2 ?_)
   intro R2 a h142 hS
   refine op1 (dU T hS kr kr kr h142 rfl kr ?_)
   intro v143 a hv hS
   obtain ⟨oy,om,hv,h146⟩:=hv
   cases hv
   replace hm:=hm (h146.sm kr)
   refine ePe T hS [12,13,14] [(5,Sl oy (gi bU rq) om)] fun a hS=>?_
   refine rPe T hS [5] [(3,I (wR (pZ+(lN (gi bU rq)))))] fun a hS=>?_
   refine rPe T hS [] [(20,B (decide ((wR (pZ+(lN (gi bU rq)))) < 0)))] fun a hS=>?_
   refine aG hS (b:=decide ((wR (pZ+(lN (gi bU rq)))) < 0)) kr (fun hb=>?_) fun hb=>?_
   ·replace hm:=hm.1 hb
    exact hm.elim
   replace hm:=hm.2 hb
   refine aH ?_
   refine region (ePe T hS [20] [(11,I (wR (rq+1)))] fun a hS=>?_)
   exact ⟨⟨wR (pZ+(lN (gi bU rq))),wR (rq+1)⟩,⟨Z,_,hm.1,hS.sl _,hO,h137,h139⟩,hm.2⟩
  replace hm:=hm.2 hb
  refine cb (by rfl) ?_
  exact ⟨Z,_,pZ,hm,hS.sl _,hO,h137⟩
 rintro a DG ⟨Z,xC,bu,hm,hS,hO,h101⟩
 unfold VC73_J1 at hm
 refine bj ?_
 refine oPe T hS 1 [3] [(23,I bu)] fun a hS=>?_
 obtain ⟨hq,hm⟩:=hm
 refine op1 (call hS kr kr hb91 kr (fun _ _=>rfl) (Lp _ _ bu 1003 hq) ?_)
 intro v103 a zr o1 hE hp hS
 replace hO:=hO.m2 hE
 replace h101:=h101.m1 hE
 obtain ⟨AD,As,hp,h109⟩:=hp
 obtain ⟨f9,hr⟩:∃ r,ct bu=r:=⟨_,rfl⟩
 replace hm:=hm f9 hr
 rw [hr] at hp h109
 clear hr
 subst hp
 replace hm:=hm (h109.sm kr)
 refine ePe T hS [23,24] [(6,Sl AD f9 As)] fun a hS=>?_
 refine bT (fun a w=>∃ (Z:Nat->Nat) (X:Nat->Nat) (bJ:List aa) (iG:Option Addr) (iD:Nat),VC73_J2 Q bJ/\St Tryz.f73.ntmps ⟨[(6,Sl iG bJ iD)],[]⟩ Z a w X/\Old w0 X0 w X/\OS aq 56 w X 1003 iG bJ iD) ?_ ?_
 ·refine rPe T hS [0] [(25,Sl a1 bU c1),(26,I (lN bU)),(27,I 0)] fun a hS=>?_
  refine aL ?_
  obtain ⟨I1,μ1,co,hm⟩:=hm
  refine cl (σ:=(List aa) × Int) (fun s a w=>∃ Z X lw lm,I1 s.1 s.2/\St Tryz.f73.ntmps ⟨[(6,Sl lw s.1 lm),(25,Sl a1 bU c1),(26,I (lN bU)),(27,I s.2)],[]⟩ Z a w X/\Old w0 X0 w X/\OS aq 56 w X 1003 lw s.1 lm/\RS (bP aq) w X a1 bU c1) (fun s=>μ1 s.1 s.2) (⟨f9,0⟩) ?_ ?_
  ·exact ⟨Z,_,AD,As,co,hS.sl _,hO,h109,h101⟩
  rintro ⟨aU,il⟩ a zn ⟨Z,J9,lw,lm,hI,hS,hO,h119,h120⟩
  replace hm:=hm aU il hI
  clear hI co
  refine rPe T hS [] [(28,B (decide (il < (lN bU))))] fun a hS=>?_
  refine bc ?_
  refine aG hS (b:=decide (il < (lN bU))) kr (fun hb=>?_) fun hb=>?_
  ·replace hm:=hm.1 hb
   refine aH (bc ?_)
   refine aL ?_
   refine bj ?_
   obtain ⟨hq,hm⟩:=hm
   refine op1 (index (e:=26) (k:=.i64) T hS kr kr kr kr h120 kr kr hq.1 hq.2 ?_)
   intro AP a h123 hS
   refine op1 (dU T hS kr kr kr h123 rfl kr ?_)
   intro v124 a hv hS
   obtain ⟨iE,iC,hv,h127⟩:=hv
   cases hv
   replace hm:=hm (h127.sm kr)
   refine ePe T hS [28,29,30] [(8,Sl iE (gi bU il) iC)] fun a hS=>?_
   refine region ?_
   refine oPe T hS 2 [8] [(31,Sl lw aU lm),(32,Sl iE (gi bU il) iC)] fun a hS=>?_
   obtain ⟨hq,hm⟩:=hm
   obtain ⟨news,hN⟩:=h127.src
   refine op1 (append (E:=56) (T:=aq) (col:=1003) (xs:=aU) T hS kr kr kr kr h119 hN kr kr kr kr hq ?_)
   intro JU JG a ru rI hE h130 hS
   clear hq hN
   clear h119
   replace hO:=hO.m2 hE
   replace h120:=h120.m1 hE
   replace h127:=h127.m1 hE
   refine ePe T hS [32,33] [(6,Sl JU (aU++(gi bU il)) JG)] fun a hS=>?_
   refine region (ePe T hS [] [(27,I (wR (il+1)))] fun a hS=>?_)
   exact ⟨⟨aU++(gi bU il),wR (il+1)⟩,⟨Z,_,JU,JG,hm.1,hS.sl _,hO,h130,h120⟩,hm.2⟩
  replace hm:=hm.2 hb
  refine cb (by rfl) ?_
  exact ⟨Z,_,aU,lw,lm,hm,hS.sl _,hO,h119⟩
 rintro a p3 ⟨Z,xD,bJ,iG,iD,hm,hS,hO,h113⟩
 unfold VC73_J2 at hm
 refine rPe T hS [6] [(2,Sl iG bJ iD)] fun a hS=>?_
 refine aY ?_
 obtain ⟨wc,hE,hF⟩:=h113.freeze (by decide)
 replace hS:=hS.ev hE (cr kr)
 replace hO:=hO.m2 hE
 have h115:=hF; clear hE hF
 exact fin T hS hO (fun c=>c) rfl (r:=[.slice iG bJ.length iD]) kr (fun X' hM hC=>⟨bJ,hm,iG,iD,rfl,h115.m0 hM⟩)
theorem C73 (Lp:S91) (v:∀ (bU:List (List aa)),r9 bU->VC73 bU (fun r=>r=cd bU)):S73:=by
 intro w X bU a1 c1   hp h1
 refine (W73 Lp w X bU a1 c1   _ (v bU hp) h1).mono ?_
 rintro _ _ _ _ ⟨r,rfl,h⟩
 exact h
end Go.Proofs.YteahldlmkheleaaGreat
