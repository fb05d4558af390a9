import Derived.Test.YteahldlmkheleaaGreatLWalksS
set_option linter.all false
namespace Go.Proofs.YteahldlmkheleaaGreat
open Go Go.Sv
abbrev zAe0 (i1 i2 i3:Nat):List (Nat × Nat):=[(i1,901),(i2,902),(i3,903)]
set_option maxHeartbeats 1000000
theorem W18 (Fw:S50) (w0) (X0) (l_:List av) (a1) (c1) (Q:(List ab) × Int->Prop) (hm:VC18 l_ Q) (h1:RS aO w0 X0 a1 l_ c1) :
  Ret Tryz.prog 18 #[.slice a1 l_.length c1] aI w0 X0 (fun w X' v=>∃ r,Q r/\∃ co cn,v=.tuple #[.slice co r.1.length cn,.int .i64 r.2]/\RS aq w X' co r.1 cn):=by
 unfold VC18 at hm
 replace hm:=hm (h1.sm kr)
 refine enter Tryz.func18 rfl (vals:=[.slice a1 l_.length c1]) kr ?_
 intro Z a hS hO hM
 replace h1:=h1.m0 hM
 refine rPe T hS [] [] fun a hS=>?_
 refine bl ?_
 refine oPe T hS 1 [] [(11,Sl a1 l_ c1)] fun a hS=>?_
 refine op1 (call hS kr kr hb50 kr (fun _ _=>rfl) (Fw _ _ l_ a1 c1 h1) ?_)
 intro v101 a eX e8 hE hp hS
 replace hO:=hO.m2 hE
 replace h1:=h1.m1 hE
 obtain ⟨am,hr⟩:∃ r,eJ l_=r:=⟨_,rfl⟩
 replace hm:=hm am hr
 rw [hr] at hp
 clear hr
 subst hp
 refine ePe T hS [11,12] [(5,I am.2)] fun a hS=>?_
 refine bc ?_
 refine rPe T hS [] [(16,B (am.2 != 0))] fun a hS=>?_
 refine aG hS (b:=(am.2 != 0)) kr (fun hb=>?_) fun hb=>?_
 ·replace hm:=hm.1 hb
  refine rPe T hS [0,5,16] [(2,V (.slice none 0 0)),(3,I am.2)] fun a hS=>?_
  refine aV ?_
  exact fin T hS hO (fun c=>c) rfl (r:=[.slice none 0 0,.int .i64 am.2]) kr (fun X' hM hC=>⟨([],am.2),hm,none,0,rfl,RS.empty _ _ _⟩)
 replace hm:=hm.2 hb
 refine aJ ?_
 refine rPe T hS [5,16] [(6,V (.slice none 0 0))] fun a hS=>?_
 refine b5 (fun a w=>∃ (Z:Nat->Nat) (X:Nat->Nat) (fG:List ab) (iL:Option Addr) (iJ:Nat),VC18_J1 Q fG/\St Tryz.f18.ntmps ⟨[(6,Sl iL fG iJ)],[]⟩ Z a w X/\Old w0 X0 w X/\OS aq 102 w X 1003 iL fG iJ) ?_ ?_
 ·refine rPe T hS [] [(7,I 0)] fun a hS=>?_
  refine aK ?_
  obtain ⟨I1,μ1,ci,hm⟩:=hm
  refine cg (σ:=(List ab) × Int) (fun s a w=>∃ Z X jf i9,I1 s.1 s.2/\St Tryz.f18.ntmps ⟨[(0,Sl a1 l_ c1),(6,Sl jf s.1 i9),(7,I s.2)],[]⟩ Z a w X/\Old w0 X0 w X/\RS aO w X a1 l_ c1/\OS aq 102 w X 1003 jf s.1 i9) (fun s=>μ1 s.1 s.2) (⟨[],0⟩) ?_ ?_
  ·exact ⟨Z,_,none,0,ci,hS.sl _,hO,h1,(OS.nil _ _ _ _ _)⟩
  rintro ⟨cW,aY⟩ a N1 ⟨Z,Md,jf,i9,hI,hS,hO,h111,h115⟩
  replace hm:=hm cW aY hI
  clear hI ci
  refine bc ?_
  refine rPe T hS [] [(21,B (decide (aY < (lN l_))))] fun a hS=>?_
  refine aG hS (b:=decide (aY < (lN l_))) kr (fun hb=>?_) fun hb=>?_
  ·replace hm:=hm.1 hb
   refine aJ ?_
   refine b5 (fun a w=>∃ (Z:Nat->Nat) (X:Nat->Nat) (ji:List ab) (qK:Option Addr) (qD:Nat),VC18_J2 I1 μ1 cW aY ji/\St Tryz.f18.ntmps ⟨[(0,Sl a1 l_ c1),(6,Sl qK ji qD),(7,I aY)],[]⟩ Z a w X/\Old w0 X0 w X/\RS aO w X a1 l_ c1/\OS aq 102 w X 1003 qK ji qD) ?_ ?_
   ·refine aK ?_
    refine bc ?_
    refine bl ?_
    refine oPe T hS 2 [21] [(24,Sl a1 l_ c1),(25,I aY)] fun a hS=>?_
    obtain ⟨hq,hm⟩:=hm
    refine op1 (index (e:=61) (k:=.i64) T hS kr kr kr kr h111 kr kr hq.1 hq.2 ?_)
    intro Cd a h123 hS
    refine op1 (e7 (off:=0) (fsz:=1) (ft:=3) (TF:=tI) (y:=(gi l_ aY).bk) T hS kr kr kr h123 kr kr kr (fun cs h=>lj h) ?_)
    intro DQ a h125 hS
    refine op1 (dL T hS kr kr kr h125 rfl kr ?_)
    intro v126 a hv hS
    cases hv
    refine ePe T hS [24,25,26,27,28] [(29,B (((gi l_ aY).bk) != 1))] fun a hS=>?_
    refine aG hS (b:=(((gi l_ aY).bk) != 1)) kr (fun hb=>?_) fun hb=>?_
    ·replace hm:=hm.1 hb
     refine cb (by rfl) ?_
     exact ⟨Z,_,cW,jf,i9,hm,hS.sl _,hO,h111,h115⟩
    replace hm:=hm.2 hb
    refine aJ ?_
    refine dw [] mixed hS ?_
    intro tB B7 hS hE hD hH
    replace hO:=hO.m2 hE
    replace h111:=h111.m1 hE
    replace h115:=h115.m2 hE
    refine tke T [0,1,5,6,10] [] hS hH #[true,true,false,false,false,true,true,false,false,false,true,false,false,false] 9 [] [(30,Sl a1 l_ c1),(31,I aY),(35,Sl a1 l_ c1),(36,I aY),(40,I aY)] fun a hS=>?_
    obtain ⟨hq,hm⟩:=hm
    refine db (e:=61) (k:=.i64) T 2 hS kr kr kr (by rfl) kr hH kr kr h111 kr kr hq.1 hq.2 ?_
    intro MF a h130 hS
    have Bi:=h130.here
    refine du (off:=1) (fsz:=1) (ft:=3) (TF:=tI) (y:=(gi l_ aY).aj) 3 T hS kr kr kr (by rfl) kr hH kr h130 kr kr kr (fun cs h=>gR h) ?_
    intro Gu a h132 fy hS
    have uB:=Bi
    rw [← fy] at uB
    clear fy
    refine dU T 4 hS kr kr kr (by rfl) kr hH kr h132 uB rfl kr ?_
    intro v133 a hv hS
    cases hv
    obtain ⟨hq,hm⟩:=hm
    refine db (e:=61) (k:=.i64) T 7 hS kr kr kr (by rfl) kr hH kr kr h111 kr kr hq.1 hq.2 ?_
    intro Rc a h135 hS
    have HU:=h135.here
    refine du (off:=2) (fsz:=1) (ft:=3) (TF:=tI) (y:=(gi l_ aY).N) 8 T hS kr kr kr (by rfl) kr hH kr h135 kr kr kr (fun cs h=>nR h) ?_
    intro DP a h137 fy hS
    have rL:=HU
    rw [← fy] at rL
    clear fy
    refine dU T 9 hS kr kr kr (by rfl) kr hH kr h137 rL rfl kr ?_
    intro v138 a hv hS
    cases hv
    refine tke T [11] [] hS hH #[true,true,true,true,true,true,true,true,true,true,true,true,false,false] 2 [30,31,35,36,40,32,33,34,37,38,39] [(41,V (.agg #[.int .i64 ((gi l_ aY).aj),.int .i64 ((gi l_ aY).N),.int .i64 aY,.int .i64 (-1),.int .i64 (-1)]))] fun a hS=>?_
    replace hS:=hS.sl ⟨[(0,Sl a1 l_ c1),(6,Sl jf cW i9),(7,I aY),(41,V (.agg #[.int .i64 ((gi l_ aY).aj),.int .i64 ((gi l_ aY).N),.int .i64 aY,.int .i64 (-1),.int .i64 (-1)]))],[]⟩
    refine only 12 kr (by rfl) (LU T hS kr kr kr (sy':=⟨[(8,Pt 9 0),(0,Sl a1 l_ c1),(6,Sl jf cW i9),(7,I aY),(41,V (.agg #[.int .i64 ((gi l_ aY).aj),.int .i64 ((gi l_ aY).N),.int .i64 aY,.int .i64 (-1),.int .i64 (-1)]))],[(9,(102,[I 0,I 0,I 0,I 0,I 0]))]⟩) kr ?_)
    intro Z a r7 vh hS hE D3
    replace hO:=hO.m2 hE
    replace hD:=hD.ev hE rfl
    replace h111:=h111.m1 hE
    replace h115:=h115.m2 hE
    replace h130:=h130.m1 hE
    replace h132:=h132.m1 hE
    replace h135:=h135.m1 hE
    replace h137:=h137.m1 hE
    replace hS:=hS.sl ⟨[(0,Sl a1 l_ c1),(6,Sl jf cW i9),(7,I aY),(41,V (.agg #[.int .i64 ((gi l_ aY).aj),.int .i64 ((gi l_ aY).N),.int .i64 aY,.int .i64 (-1),.int .i64 (-1)])),(8,Pt 9 0)],[(9,(102,[I 0,I 0,I 0,I 0,I 0]))]⟩
    refine c8 ((bJ.of hS (bks:=[]) kr hD).rho D3 kr) ?_
    intro hH
    replace hS:=hS.sl ⟨[(0,Sl a1 l_ c1),(6,Sl jf cW i9),(7,I aY),(41,V (.agg #[.int .i64 ((gi l_ aY).aj),.int .i64 ((gi l_ aY).N),.int .i64 aY,.int .i64 (-1),.int .i64 (-1)])),(8,Pt 9 0)],[(9,(102,[I 0,I 0,I 0,I 0,I 0]))]⟩
    refine only 13 kr (by rfl) (Al T hS kr kr (sy':=⟨[(0,Sl a1 l_ c1),(6,Sl jf cW i9),(7,I aY),(41,V (.agg #[.int .i64 ((gi l_ aY).aj),.int .i64 ((gi l_ aY).N),.int .i64 aY,.int .i64 (-1),.int .i64 (-1)])),(8,Pt 9 0)],[(9,(102,[I ((gi l_ aY).aj),I ((gi l_ aY).N),I aY,I (-1),I (-1)])),(9,(102,[I 0,I 0,I 0,I 0,I 0]))]⟩) kr ?_)
    intro a py q6 hS hE
    replace hO:=hO.m2 hE
    replace hD:=hD.ev hE rfl
    replace h111:=h111.m1 hE
    replace h115:=h115.m2 hE
    replace h130:=h130.m1 hE
    replace h132:=h132.m1 hE
    replace h135:=h135.m1 hE
    replace h137:=h137.m1 hE
    replace hS:=hS.sl ⟨[(0,Sl a1 l_ c1),(6,Sl jf cW i9),(7,I aY),(41,V (.agg #[.int .i64 ((gi l_ aY).aj),.int .i64 ((gi l_ aY).N),.int .i64 aY,.int .i64 (-1),.int .i64 (-1)])),(8,Pt 9 0)],[(9,(102,[I ((gi l_ aY).aj),I ((gi l_ aY).N),I aY,I (-1),I (-1)]))]⟩
    refine c8 ((bJ.of hS (bks:=[]) kr hD).rho D3 kr) ?_
    intro hH
    refine aU kr ?_
    replace hS:=hS.sle [41] []
    refine b5 (fun a w=>∃ (Z:Nat->Nat) (X:Nat->Nat) (rZ:List ab) (lm:Int) (m8:Int) (f8:Int) (iY:Int) (m7:Int) (tn:Option Addr) (th:Nat),VC18_J3 I1 μ1 cW aY rZ lm m8 f8 iY m7/\St Tryz.f18.ntmps ⟨[(0,Sl a1 l_ c1),(6,Sl tn rZ th),(7,I aY),(8,Pt 9 0)],[(9,(102,[I lm,I m8,I f8,I iY,I m7]))]⟩ Z a w X/\Old w0 X0 w X/\RS aO w X a1 l_ c1/\OS aq 102 w X 1003 tn rZ th) ?_ ?_
    ·refine rPe T hS [] [(9,I (wR (aY+1)))] fun a hS=>?_
     refine aK ?_
     obtain ⟨I2,μ2,ci,hm⟩:=hm
     refine cg (σ:=(List ab) × Int × Int × Int × Int × Int × Int) (fun s a w=>∃ Z X qI qB,I2 s.1 s.2.1 s.2.2.1 s.2.2.2.1 s.2.2.2.2.1 s.2.2.2.2.2.1 s.2.2.2.2.2.2/\St Tryz.f18.ntmps ⟨[(0,Sl a1 l_ c1),(6,Sl qI s.1 qB),(7,I aY),(8,Pt 9 0),(9,I s.2.1)],[(9,(102,[I s.2.2.1,I s.2.2.2.1,I s.2.2.2.2.1,I s.2.2.2.2.2.1,I s.2.2.2.2.2.2]))]⟩ Z a w X/\Old w0 X0 w X/\RS aO w X a1 l_ c1/\OS aq 102 w X 1003 qI s.1 qB) (fun s=>μ2 s.1 s.2.1 s.2.2.1 s.2.2.2.1 s.2.2.2.2.1 s.2.2.2.2.2.1 s.2.2.2.2.2.2) (⟨cW,wR (aY+1),(gi l_ aY).aj,(gi l_ aY).N,aY,(-1),(-1)⟩) ?_ ?_
     ·exact ⟨Z,_,jf,i9,ci,hS.sl _,hO,h111,h115⟩
     rintro ⟨vx,ky,l7,iX,vw,oV,z1⟩ a GP ⟨Z,IH,qI,qB,hI,hS,hO,h163,h167⟩
     replace hm:=hm vx ky l7 iX vw oV z1 hI
     clear hI ci
     refine bc ?_
     refine rPe T hS [] [(52,B ((decide (ky < (lN l_))) && (decide (oV < 0))))] (sp:=[48]) fun a hS=>?_
     refine aG hS (b:=((decide (ky < (lN l_))) && (decide (oV < 0)))) kr (fun hb=>?_) fun hb=>?_
     ·replace hm:=hm.1 hb
      refine aJ ?_
      refine b5 (fun a w=>∃ (Z:Nat->Nat) (X:Nat->Nat) (pu:List ab) (fD:Int) (Ct:Int) (tl:Option Addr) (tf:Nat),VC18_J4 I2 μ2 vx ky l7 iX vw oV z1 pu fD Ct/\St Tryz.f18.ntmps ⟨[(0,Sl a1 l_ c1),(6,Sl tl pu tf),(7,I aY),(8,Pt 9 0),(9,I ky)],[(9,(102,[I l7,I iX,I vw,I fD,I Ct]))]⟩ Z a w X/\Old w0 X0 w X/\RS aO w X a1 l_ c1/\OS aq 102 w X 1003 tl pu tf) ?_ ?_
      ·refine aK ?_
       refine dw [9] mixed hS ?_
       intro JN IO hS hE hD hH
       replace hO:=hO.m2 hE
       replace h163:=h163.m1 hE
       replace h167:=h167.m2 hE
       refine tke T [0,1,5,6] [9] hS hH #[true,true,false,false,false,true,true,false,false,false,false] 7 [] [(55,Sl a1 l_ c1),(56,I ky),(60,Sl a1 l_ c1),(61,I aY)] fun a hS=>?_
       obtain ⟨hq,hm⟩:=hm
       refine db (e:=61) (k:=.i64) T 2 hS kr kr kr (by rfl) kr hH kr kr h163 kr kr hq.1 hq.2 ?_
       intro QW a h184 hS
       have HM:=h184.here
       refine du (off:=1) (fsz:=1) (ft:=3) (TF:=tI) (y:=(gi l_ ky).aj) 3 T hS kr kr kr (by rfl) kr hH kr h184 kr kr kr (fun cs h=>gR h) ?_
       intro QU a h186 fy hS
       have EA:=HM
       rw [← fy] at EA
       clear fy
       refine dU T 4 hS kr kr kr (by rfl) kr hH kr h186 EA rfl kr ?_
       intro v187 a hv hS
       cases hv
       obtain ⟨hq,hm⟩:=hm
       refine db (e:=61) (k:=.i64) T 7 hS kr kr kr (by rfl) kr hH kr kr h163 kr kr hq.1 hq.2 ?_
       intro QR a h189 hS
       have HL:=h189.here
       refine du (off:=1) (fsz:=1) (ft:=3) (TF:=tI) (y:=(gi l_ aY).aj) 8 T hS kr kr kr (by rfl) kr hH kr h189 kr kr kr (fun cs h=>gR h) ?_
       intro I0 a h191 fy hS
       have Ez:=HL
       rw [← fy] at Ez
       clear fy
       refine dU T 9 hS kr kr kr (by rfl) kr hH kr h191 Ez rfl kr ?_
       intro v192 a hv hS
       cases hv
       refine tke T [10] [9] hS hH (tts 11) 0 [55,56,60,61,57,58,59,62,63,64] [(65,B (((gi l_ ky).aj) == ((gi l_ aY).aj)))] fun a hS=>?_
       refine aU kr ?_
       replace hS:=hS.sle [] []
       refine aG hS (b:=(((gi l_ ky).aj) == ((gi l_ aY).aj))) kr (fun hb=>?_) fun hb=>?_
       ·replace hm:=hm.1 hb
        refine rM T hS ⟨[(0,Sl a1 l_ c1),(6,Sl qI vx qB),(7,I aY),(8,Pt 9 0),(9,I ky)],[(9,(102,[I l7,I iX,I vw,I ky,I z1]))]⟩ fun Z a JH Mi hS hE hr=>?_
        replace hO:=hO.m2 hE
        replace h163:=h163.m1 hE
        replace h167:=h167.m2 hE
        clear hE hr
        refine region ?_
        refine oPe T hS 2 [] [(68,Sl a1 l_ c1),(69,I ky)] fun a hS=>?_
        obtain ⟨hq,hm⟩:=hm
        refine op1 (index (e:=61) (k:=.i64) T hS kr kr kr kr h163 kr kr hq.1 hq.2 ?_)
        intro QN a h194 hS
        refine op1 (e7 (off:=2) (fsz:=1) (ft:=3) (TF:=tI) (y:=(gi l_ ky).N) T hS kr kr kr h194 kr kr kr (fun cs h=>nR h) ?_)
        intro QL a h196 hS
        refine op1 (dL T hS kr kr kr h196 rfl kr ?_)
        intro v197 a hv hS
        cases hv
        refine eM T hS ⟨[(0,Sl a1 l_ c1),(6,Sl qI vx qB),(7,I aY),(8,Pt 9 0),(9,I ky)],[(9,(102,[I l7,I iX,I vw,I ky,I ((gi l_ ky).N)]))]⟩ fun Z a GS IJ hS hE hr=>?_
        replace hO:=hO.m2 hE
        replace h163:=h163.m1 hE
        replace h167:=h167.m2 hE
        clear hE hr
        exact ⟨Z,_,vx,ky,(gi l_ ky).N,qI,qB,hm,hS.sl _,hO,h163,h167⟩
       replace hm:=hm.2 hb
       refine aJ ?_
       exact ⟨Z,_,vx,oV,z1,qI,qB,hm,hS.sl _,hO,h163,h167⟩
      rintro a GQ ⟨Z,Mh,pu,fD,Ct,tl,tf,hm,hS,hO,h174,h178⟩
      unfold VC18_J4 at hm
      refine region (ePe T hS [] [(9,I (wR (ky+1)))] fun a hS=>?_)
      exact ⟨⟨pu,wR (ky+1),l7,iX,vw,fD,Ct⟩,⟨Z,_,tl,tf,hm.1,hS.sl _,hO,h174,h178⟩,hm.2⟩
     replace hm:=hm.2 hb
     refine cb (by rfl) ?_
     exact ⟨Z,_,vx,l7,iX,vw,oV,z1,qI,qB,hm,hS.sl _,hO,h163,h167⟩
    rintro a GO ⟨Z,Gf,rZ,lm,m8,f8,iY,m7,tn,th,hm,hS,hO,h144,h148⟩
    unfold VC18_J3 at hm
    refine region ?_
    refine oP T hS 2 ⟨[(0,Sl a1 l_ c1),(6,Sl tn rZ th),(7,I aY),(74,Sl tn rZ th),(75,V (.agg #[.int .i64 lm,.int .i64 m8,.int .i64 f8,.int .i64 iY,.int .i64 m7]))],[]⟩ fun a hS=>?_
    refine op1 (lit (E:=102) (col:=0) (T:=aq) (vals:=[.agg #[.int .i64 lm,.int .i64 m8,.int .i64 f8,.int .i64 iY,.int .i64 m7]]) (ys:=[(⟨lm,m8,f8,iY,m7⟩:ab)]) T hS kr kr kr kr (by exact ⟨rfl,trivial⟩) rfl kr kr kr kr ?_)
    intro b154 a EU B4 hE h157 hN hS
    clear hN
    replace hO:=hO.m2 hE
    replace h144:=h144.m1 hE
    replace h148:=h148.m2 hE
    replace h157:=h157.rs0
    obtain ⟨hq,hm⟩:=hm
    obtain ⟨news,hN⟩:=h157.src
    refine op1 (append (E:=102) (T:=aq) (col:=1003) (xs:=rZ) T hS kr kr kr kr h148 hN kr kr kr kr hq ?_)
    intro ID Io a Cz Gk hE h160 hS
    clear hq hN
    clear h148
    replace hO:=hO.m2 hE
    replace h144:=h144.m1 hE
    replace h157:=h157.m1 hE
    refine ePe T hS [75,76,77] [(6,Sl ID (rZ++[(⟨lm,m8,f8,iY,m7⟩:ab)]) Io)] fun a hS=>?_
    exact ⟨Z,_,rZ++[(⟨lm,m8,f8,iY,m7⟩:ab)],ID,Io,hm,hS.sl _,hO,h144,h160⟩
   rintro a GN ⟨Z,Me,ji,qK,qD,hm,hS,hO,h117,h121⟩
   unfold VC18_J2 at hm
   refine region (ePe T hS [] [(7,I (wR (aY+1)))] fun a hS=>?_)
   exact ⟨⟨ji,wR (aY+1)⟩,⟨Z,_,qK,qD,hm.1,hS.sl _,hO,h117,h121⟩,hm.2⟩
  replace hm:=hm.2 hb
  refine cb (by rfl) ?_
  exact ⟨Z,_,cW,jf,i9,hm,hS.sl _,hO,h115⟩
 rintro a JE ⟨Z,Qm,fG,iL,iJ,hm,hS,hO,h108⟩
 unfold VC18_J1 at hm
 refine rPe T hS [6] [(2,Sl iL fG iJ),(3,I 0)] fun a hS=>?_
 refine aV ?_
 obtain ⟨Ca,hE,hF⟩:=h108.freeze (by decide)
 replace hS:=hS.ev hE (cq kr)
 replace hO:=hO.m2 hE
 have h110:=hF; clear hE hF
 exact fin T hS hO (fun c=>c) rfl (r:=[.slice iL fG.length iJ,.int .i64 0]) kr (fun X' hM hC=>⟨(fG,0),hm,iL,iJ,rfl,h110.m0 hM⟩)
theorem C18 (Fw:S50) (v:∀ (l_:List av),VC18 l_ (fun r=>r=iq l_)):S18:=by
 intro w X l_ a1 c1   h1
 refine (W18 Fw w X l_ a1 c1   _ (v l_) h1).mono ?_
 rintro _ _ _ _ ⟨r,rfl,h⟩
 exact h
theorem W25 (w0) (X0) (a_:List Int) (b_:List Int) (a1) (c1) (a2) (c2) (Q:Bool->Prop) (hm:VC25 a_ b_ Q) (h1:RS tI w0 X0 a1 a_ c1) (h2:RS tI w0 X0 a2 b_ c2) :
  Ret Tryz.prog 25 #[.slice a1 a_.length c1,.slice a2 b_.length c2] aI w0 X0 (fun w X' v=>∃ r,Q r/\v=.bool r):=by
 unfold VC25 at hm
 replace hm:=hm (h1.sm kr)
 replace hm:=hm (h2.sm kr)
 refine enter Tryz.func25 rfl (vals:=[.slice a1 a_.length c1,.slice a2 b_.length c2]) kr ?_
 intro Z a hS hO hM
 replace h1:=h1.m0 hM
 replace h2:=h2.m0 hM
 refine rPe T hS [] [] fun a hS=>?_
 refine bc ?_
 refine rPe T hS [] [(10,B ((lN a_) != (lN b_)))] fun a hS=>?_
 refine aG hS (b:=((lN a_) != (lN b_))) kr (fun hb=>?_) fun hb=>?_
 ·replace hm:=hm.1 hb
  refine rPe T hS [0,1,10] [(4,B false)] fun a hS=>?_
  refine aV ?_
  exact fin T hS hO (fun c=>c) rfl (r:=[.bool false]) kr (fun X' hM hC=>⟨false,hm,rfl⟩)
 replace hm:=hm.2 hb
 refine aJ ?_
 refine b5 (fun a w=>∃ Z X,VC25_J1 Q/\St Tryz.f25.ntmps ⟨[],[]⟩ Z a w X/\Old w0 X0 w X) ?_ ?_
 ·refine rPe T hS [10] [(5,I 0)] fun a hS=>?_
  refine aK ?_
  obtain ⟨I1,μ1,ci,hm⟩:=hm
  refine cg (σ:=Int) (fun s a w=>∃ Z X,I1 s/\St Tryz.f25.ntmps ⟨[(0,Sl a1 a_ c1),(1,Sl a2 b_ c2),(5,I s)],[]⟩ Z a w X/\Old w0 X0 w X/\RS tI w X a1 a_ c1/\RS tI w X a2 b_ c2) (fun s=>μ1 s) (0) ?_ ?_
  ·exact ⟨Z,_,ci,hS.sl _,hO,h1,h2⟩
  rintro be a tE ⟨Z,tt,hI,hS,hO,h101,h102⟩
  replace hm:=hm be hI
  clear hI ci
  refine bc ?_
  refine rPe T hS [] [(14,B (decide (be < (lN a_))))] fun a hS=>?_
  refine aG hS (b:=decide (be < (lN a_))) kr (fun hb=>?_) fun hb=>?_
  ·replace hm:=hm.1 hb
   refine aJ (bc ?_)
   refine aK ?_
   refine dw [] mixed hS ?_
   intro yl ox hS hE hD hH
   replace hO:=hO.m2 hE
   replace h101:=h101.m1 hE
   replace h102:=h102.m1 hE
   refine tke T [0,1,4,5] [] hS hH #[true,true,false,false,true,true,false,false,false] 5 [] [(17,Sl a1 a_ c1),(18,I be),(21,Sl a2 b_ c2),(22,I be)] fun a hS=>?_
   obtain ⟨hq,hm⟩:=hm
   refine db (e:=3) (k:=.i64) T 2 hS kr kr kr (by rfl) kr hH kr kr h101 kr kr hq.1 hq.2 ?_
   intro Jb a h107 hS
   have Bl:=h107.here
   refine dU T 3 hS kr kr kr (by rfl) kr hH kr h107 Bl rfl kr ?_
   intro v108 a hv hS
   cases hv
   obtain ⟨hq,hm⟩:=hm
   refine db (e:=3) (k:=.i64) T 6 hS kr kr kr (by rfl) kr hH kr kr h102 kr kr hq.1 hq.2 ?_
   intro zP a h110 hS
   have lQ:=h110.here
   refine dU T 7 hS kr kr kr (by rfl) kr hH kr h110 lQ rfl kr ?_
   intro v111 a hv hS
   cases hv
   refine tke T [8] [] hS hH (tts 9) 0 [17,18,21,22,19,20,23,24] [(25,B ((gi a_ be) != (gi b_ be)))] fun a hS=>?_
   refine aU kr ?_
   replace hS:=hS.sle [] []
   refine aG hS (b:=((gi a_ be) != (gi b_ be))) kr (fun hb=>?_) fun hb=>?_
   ·replace hm:=hm.1 hb
    refine rPe T hS [0,1,5,25] [(4,B false)] fun a hS=>?_
    refine aV ?_
    exact fin T hS hO (fun c=>c) rfl (r:=[.bool false]) kr (fun X' hM hC=>⟨false,hm,rfl⟩)
   replace hm:=hm.2 hb
   refine aJ ?_
   refine region (ePe T hS [25] [(5,I (wR (be+1)))] fun a hS=>?_)
   exact ⟨wR (be+1),⟨Z,_,hm.1,hS.sl _,hO,h101,h102⟩,hm.2⟩
  replace hm:=hm.2 hb
  refine cb (by rfl) ?_
  exact ⟨Z,_,hm,hS.sl _,hO⟩
 rintro a oX ⟨Z,vj,hm,hS,hO⟩
 unfold VC25_J1 at hm
 refine rPe T hS [] [(4,B true)] fun a hS=>?_
 refine aV ?_
 exact fin T hS hO (fun c=>c) rfl (r:=[.bool true]) kr (fun X' hM hC=>⟨true,hm,rfl⟩)
theorem C25 (v:∀ (a_:List Int) (b_:List Int),VC25 a_ b_ (fun r=>r=eK a_ b_)):S25:=by
 intro w X a_ b_ a1 c1 a2 c2   h1 h2
 refine (W25 w X a_ b_ a1 c1 a2 c2   _ (v a_ b_) h1 h2).mono ?_
 rintro _ _ _ _ ⟨r,rfl,h⟩
 exact h
theorem W92 (w0) (X0) (s_:List Int) (v_:Int) (a1) (c1) (Q:Int->Prop) (hm:VC92 s_ v_ Q) (h1:RS tI w0 X0 a1 s_ c1) :
  Ret Tryz.prog 92 #[.slice a1 s_.length c1,.int .i64 v_] aI w0 X0 (fun w X' v=>∃ r,Q r/\v=.int .i64 r):=by
 unfold VC92 at hm
 replace hm:=hm (h1.sm kr)
 refine enter Tryz.func92 rfl (vals:=[.slice a1 s_.length c1,.int .i64 v_]) kr ?_
 intro Z a hS hO hM
 replace h1:=h1.m0 hM
 refine rPe T hS [] [] fun a hS=>?_
 refine b5 (fun a w=>∃ Z X,VC92_J1 Q/\St Tryz.f92.ntmps ⟨[],[]⟩ Z a w X/\Old w0 X0 w X) ?_ ?_
 ·refine rPe T hS [] [(7,I (lN s_)),(8,I 0)] fun a hS=>?_
  refine aK ?_
  obtain ⟨I1,μ1,ci,hm⟩:=hm
  refine cg (σ:=Int) (fun s a w=>∃ Z X,I1 s/\St Tryz.f92.ntmps ⟨[(0,Sl a1 s_ c1),(1,I v_),(7,I (lN s_)),(8,I s)],[]⟩ Z a w X/\Old w0 X0 w X/\RS tI w X a1 s_ c1) (fun s=>μ1 s) (0) ?_ ?_
  ·exact ⟨Z,_,ci,hS.sl _,hO,h1⟩
  rintro bu a qT ⟨Z,lB,hI,hS,hO,h101⟩
  replace hm:=hm bu hI
  clear hI ci
  refine rPe T hS [] [(9,B (decide (bu < (lN s_))))] fun a hS=>?_
  refine bc ?_
  refine aG hS (b:=decide (bu < (lN s_))) kr (fun hb=>?_) fun hb=>?_
  ·replace hm:=hm.1 hb
   refine aJ (bc ?_)
   refine aK ?_
   refine rPe T hS [9] [(5,I bu)] fun a hS=>?_
   refine bl ?_
   refine oPe T hS 3 [] [(11,I v_),(12,Sl a1 s_ c1),(13,I bu)] fun a hS=>?_
   obtain ⟨hq,hm⟩:=hm
   refine op1 (index (e:=3) (k:=.i64) T hS kr kr kr kr h101 kr kr hq.1 hq.2 ?_)
   intro tv a h104 hS
   refine op1 (dL T hS kr kr kr h104 rfl kr ?_)
   intro v105 a hv hS
   cases hv
   refine ePe T hS [11,12,13,14,15] [(16,B (v_ == (gi s_ bu)))] fun a hS=>?_
   refine aG hS (b:=(v_ == (gi s_ bu))) kr (fun hb=>?_) fun hb=>?_
   ·replace hm:=hm.1 hb
    refine rPe T hS [0,1,5,7,8,16] [(4,I bu)] fun a hS=>?_
    refine aV ?_
    exact fin T hS hO (fun c=>c) rfl (r:=[.int .i64 bu]) kr (fun X' hM hC=>⟨bu,hm,rfl⟩)
   replace hm:=hm.2 hb
   refine aJ ?_
   refine region (ePe T hS [5,16] [(8,I (wR (bu+1)))] fun a hS=>?_)
   exact ⟨wR (bu+1),⟨Z,_,hm.1,hS.sl _,hO,h101⟩,hm.2⟩
  replace hm:=hm.2 hb
  refine cb (by rfl) ?_
  exact ⟨Z,_,hm,hS.sl _,hO⟩
 rintro a pz ⟨Z,pd,hm,hS,hO⟩
 unfold VC92_J1 at hm
 refine rPe T hS [] [(4,I (-1))] fun a hS=>?_
 refine aV ?_
 exact fin T hS hO (fun c=>c) rfl (r:=[.int .i64 (-1)]) kr (fun X' hM hC=>⟨(-1),hm,rfl⟩)
theorem C92 (v:∀ (s_:List Int) (v_:Int),VC92 s_ v_ (fun r=>r=dV s_ v_)):S92:=by
 intro w X s_ v_ a1 c1   h1
 refine (W92 w X s_ v_ a1 c1   _ (v s_ v_) h1).mono ?_
 rintro _ _ _ _ ⟨r,rfl,h⟩
 exact h
theorem W77 (Kf:S92) (w0) (X0) (s_:List Int) (v_:Int) (a1) (c1) (Q:Bool->Prop) (hm:VC77 s_ v_ Q) (h1:RS tI w0 X0 a1 s_ c1) :
  Ret Tryz.prog 77 #[.slice a1 s_.length c1,.int .i64 v_] aI w0 X0 (fun w X' v=>∃ r,Q r/\v=.bool r):=by
 unfold VC77 at hm
 replace hm:=hm (h1.sm kr)
 refine enter Tryz.func77 rfl (vals:=[.slice a1 s_.length c1,.int .i64 v_]) kr ?_
 intro Z a hS hO hM
 replace h1:=h1.m0 hM
 refine rPe T hS [] [] fun a hS=>?_
 refine bl ?_
 refine oPe T hS 2 [0,1] [(5,Sl a1 s_ c1),(6,I v_)] fun a hS=>?_
 refine op1 (call hS kr kr hb92 kr (fun _ _=>rfl) (Kf _ _ s_ v_ a1 c1 h1) ?_)
 intro v101 a eX e8 hE hp hS
 replace hO:=hO.m2 hE
 replace h1:=h1.m1 hE
 obtain ⟨am,hr⟩:∃ r,dV s_ v_=r:=⟨_,rfl⟩
 replace hm:=hm am hr
 rw [hr] at hp
 clear hr
 subst hp
 refine ePe T hS [5,6,7] [(4,B (decide (am≥0)))] fun a hS=>?_
 refine aV ?_
 exact fin T hS hO (fun c=>c) rfl (r:=[.bool (decide (am≥0))]) kr (fun X' hM hC=>⟨(decide (am≥0)),hm,rfl⟩)
theorem C77 (Kf:S92) (v:∀ (s_:List Int) (v_:Int),VC77 s_ v_ (fun r=>r=ct s_ v_)):S77:=by
 intro w X s_ v_ a1 c1   h1
 refine (W77 Kf w X s_ v_ a1 c1   _ (v s_ v_) h1).mono ?_
 rintro _ _ _ _ ⟨r,rfl,h⟩
 exact h
theorem W49 (w0) (X0) (s_:List a8) (a1) (c1) (Q:(List a8)->Prop) (hm:VC49 s_ Q) (h1:RS az w0 X0 a1 s_ c1) :
  Ret Tryz.prog 49 #[.slice a1 s_.length c1] aI w0 X0 (fun w X' v=>∃ r,Q r/\∃ co cn,v=.slice co r.length cn/\RS az w X' co r cn):=by
 unfold VC49 at hm
 replace hm:=hm (h1.sm kr)
 refine enter Tryz.func49 rfl (vals:=[.slice a1 s_.length c1]) kr ?_
 intro Z a hS hO hM
 replace h1:=h1.m0 hM
 refine rPe T hS [] [] fun a hS=>?_
 refine bc ?_
 refine bl ?_
 refine oPe T hS 1 [] [(3,Sl a1 s_ c1)] fun a hS=>?_
 obtain ⟨b101,hb102⟩:∃ q:Bool,a1.isNone=q:=⟨_,rfl⟩
 replace hm:=hm b101 (h1.Hk hb102)
 refine op1 (EH (e:=107) (m:=s_.length) (c:=c1) hS kr kr kr kr Tryz.underlying46 hb102 ?_)
 intro a hS
 clear hb102
 refine gA ?_
 refine aG hS (b:=b101) kr (fun hb=>?_) fun hb=>?_
 ·replace hm:=hm.1 hb
  refine rPe T hS [0,4] [(2,V (.slice none 0 0))] fun a hS=>?_
  refine aV ?_
  exact fin T hS hO (fun c=>c) rfl (r:=[.slice none 0 0]) kr (fun X' hM hC=>⟨[],hm,none,0,rfl,RS.empty _ _ _⟩)
 replace hm:=hm.2 hb
 refine aJ ?_
 refine bl ?_
 refine op1 (lit (E:=107) (col:=1003) (T:=az) (vals:=[]) (ys:=([]:List a8)) T hS kr kr kr kr trivial rfl kr kr kr kr ?_)
 intro b103 a yl ox hE h106 hN hS
 clear hN
 replace hO:=hO.m2 hE
 replace h1:=h1.m1 hE
 refine oPe T hS 1 [0,4] [(6,Sl a1 s_ c1)] fun a hS=>?_
 obtain ⟨hq,hm⟩:=hm
 obtain ⟨news,hN⟩:=h1.src
 refine op1 (append (E:=107) (T:=az) (col:=1003) (xs:=([]:List a8)) T hS kr kr kr kr h106 hN kr kr kr kr hq ?_)
 intro eR d9 a qT pd hE h109 hS
 clear hq hN
 clear h106
 replace hO:=hO.m2 hE
 replace h1:=h1.m1 hE
 refine ePe T hS [6,7] [(2,Sl eR (([]:List a8)++s_) d9)] fun a hS=>?_
 refine aV ?_
 obtain ⟨tt,hE,hF⟩:=h109.freeze (by decide)
 replace hS:=hS.ev hE (cq kr)
 replace hO:=hO.m2 hE
 have h113:=hF; clear hE hF
 exact fin T hS hO (fun c=>c) rfl (r:=[.slice eR (([]:List a8)++s_).length d9]) kr (fun X' hM hC=>⟨(([]:List a8)++s_),hm,eR,d9,rfl,h113.m0 hM⟩)
theorem C49 (v:∀ (s_:List a8),xm s_->VC49 s_ (fun r=>r=cY s_)):S49:=by
 intro w X s_ a1 c1   hp h1
 refine (W49 w X s_ a1 c1   _ (v s_ hp) h1).mono ?_
 rintro _ _ _ _ ⟨r,rfl,h⟩
 exact h
theorem W76 (w0) (X0) (p_:Int × Int) (n_:Int) (Q:Bool->Prop) (hm:VC76 p_ n_ Q) :
  Ret Tryz.prog 76 #[.agg #[.int .i64 p_.1,.int .i64 p_.2],.int .i64 n_] aI w0 X0 (fun w X' v=>∃ r,Q r/\v=.bool r):=by
 unfold VC76 at hm
 refine enter Tryz.func76 rfl (vals:=[.agg #[.int .i64 p_.1,.int .i64 p_.2],.int .i64 n_]) kr ?_
 intro Z a hS hO hM
 refine rM T hS ⟨[(1,I n_),(2,Pt 3 0)],[(3,(131,[I p_.1,I p_.2]))]⟩ fun Z a nS oy hS hE hr=>?_
 replace hO:=hO.m2 hE
 clear hE hr
 refine rP T hS ⟨[(4,B (((decide ((if p_.2 < p_.1 then p_.2 else p_.1)≥0)) && (decide ((if p_.2 > p_.1 then p_.2 else p_.1) < n_))) && (p_.1 != p_.2)))],[]⟩ (sp:=[11,20]) fun a hS=>?_
 refine aV ?_
 exact fin T hS hO (fun c=>c) rfl (r:=[.bool (((decide ((if p_.2 < p_.1 then p_.2 else p_.1)≥0)) && (decide ((if p_.2 > p_.1 then p_.2 else p_.1) < n_))) && (p_.1 != p_.2))]) kr (fun X' hM hC=>⟨(((decide ((if p_.2 < p_.1 then p_.2 else p_.1)≥0)) && (decide ((if p_.2 > p_.1 then p_.2 else p_.1) < n_))) && (p_.1 != p_.2)),hm,rfl⟩)
theorem C76 (v:∀ (p_:Int × Int) (n_:Int),VC76 p_ n_ (fun r=>r=dR p_ n_)):S76:=by
 intro w X p_ n_    
 refine (W76 w X p_ n_    _ (v p_ n_)).mono ?_
 rintro _ _ _ _ ⟨r,rfl,h⟩
 exact h
theorem W75 (Ko:S76) (Fr:S77) (w0) (X0) (p_:Int × Int) (al:Int) (ap:Int) (aL:List Int) (a1) (c1) (b1) (i1) (b2) (i2) (b3) (i3) (Q:Bool->Prop) (hm:VC75 p_ al ap aL Q) (h1:RS tI w0 X0 a1 aL c1) (fb:Cell w0 X0 b1 i1 3 [.int .i64 al]) (gp:Cell w0 X0 b2 i2 3 [.int .i64 ap]) (lb:Cell w0 X0 b3 i3 43 [.slice a1 aL.length c1]) (hA:dP [i1,i2,i3]) :
  Ret Tryz.prog 75 #[.agg #[.int .i64 p_.1,.int .i64 p_.2],.pointer (some ⟨b1,0,none⟩),.pointer (some ⟨b2,0,none⟩),.pointer (some ⟨b3,0,none⟩)] (pR [i1,i2,i3]) w0 X0 (fun w X' v=>∃ r,Q r/\v=.bool r/\Cell w X' b1 i1 3 [.int .i64 al]/\Cell w X' b2 i2 3 [.int .i64 ap]/\Cell w X' b3 i3 43 [.slice a1 aL.length c1]):=by
 unfold VC75 at hm
 replace hm:=hm (h1.sm kr)
 refine fv Tryz.func75 rfl (dB (zAe0 i1 i2 i3)) (fun id=>(bif Nat.beq id 901 then b1 else (bif Nat.beq id 902 then b2 else (bif Nat.beq id 903 then b3 else 0)))) (args:=[V (.agg #[.int .i64 p_.1,.int .i64 p_.2]),Pt 901 0,Pt 902 0,Pt 903 0]) (bxs:=[(901,(3,[I al])),(902,(3,[I ap])),(903,(43,[Sl a1 aL c1]))]) kr rfl (bn.cons kr (fb.map (bK 0 hA.1 rfl)) (bn.cons kr (gp.map (bK 1 hA.1 rfl)) (bn.cons kr (lb.map (bK 2 hA.1 rfl)) bn.nil))) (fe (fun q hq=>(hA.2 q.1 (List.mem_map.2 ⟨q,hq,rfl⟩)).1)) ?_
 intro a hS hO hM
 have hP:Pin [(901,b1),(902,b2),(903,b3)] (fun id=>(bif Nat.beq id 901 then b1 else (bif Nat.beq id 902 then b2 else (bif Nat.beq id 903 then b3 else 0)))):=by intro q hq; simp at hq; rcases hq with rfl | rfl | rfl <;> rfl
 generalize (fun id=>(bif Nat.beq id 901 then b1 else (bif Nat.beq id 902 then b2 else (bif Nat.beq id 903 then b3 else 0))))=Z at hS hP
 clear fb gp lb
 replace h1:=h1.m0 hM
 refine rM T hS ⟨[(1,Pt 901 0),(2,Pt 902 0),(3,Pt 903 0),(4,Pt 5 0)],[(5,(131,[I p_.1,I p_.2])),(901,(3,[I al])),(902,(3,[I ap])),(903,(43,[Sl a1 aL c1]))]⟩ fun Z a pz q8 hS hE hr=>?_
 replace hO:=hO.m2 hE
 replace h1:=h1.m1 hE
 replace hP:=hP.mv hr kr
 clear hE hr
 refine bl ?_
 refine oPe T hS 2 [1] [(6,V (.agg #[.int .i64 p_.1,.int .i64 p_.2])),(7,I al)] fun a hS=>?_
 refine op1 (call hS kr kr hb76 kr (fun _ _=>rfl) (Ko _ _ (p_.1,p_.2) al) ?_)
 intro v101 a eX e8 hE hp hS
 replace hO:=hO.m2 hE
 replace h1:=h1.m1 hE
 obtain ⟨am,hr⟩:∃ r,dR (p_.1,p_.2) al=r:=⟨_,rfl⟩
 replace hm:=hm am hr
 rw [hr] at hp
 clear hr
 subst hp
 refine oPe T hS 7 [2,6,7,8] [(15,B (am && (p_.2 == ap)))] (sp:=[9]) fun a hS=>?_
 rcases bft (am && (p_.2 == ap)) with hb | hb
 ·replace hS:=hS.lit (t:=15) kr hb
  replace hm:=hm.1 hb
  refine oP T hS 3 ⟨[(15,B true),(16,Sl a1 aL c1),(18,I p_.1)],[(901,(3,[I al])),(902,(3,[I ap])),(903,(43,[Sl a1 aL c1]))]⟩ fun a hS=>?_
  refine op1 (call hS kr kr hb77 kr (fun _ _=>rfl) (Fr _ _ aL p_.1 a1 c1 h1) ?_)
  intro v105 a mD mj hE hp hS
  replace hO:=hO.m2 hE
  replace h1:=h1.m1 hE
  obtain ⟨aZ,hr⟩:∃ r,ct aL p_.1=r:=⟨_,rfl⟩
  replace hm:=hm aZ hr
  rw [hr] at hp
  clear hr
  subst hp
  refine ePe T hS [15,16,18,19] [(5,B (!aZ))] fun a hS=>?_
  refine aV ?_
  exact gy T hS hO (fun c h=>bT kr h) (fun c h=>bU (l:=(zAe0 i1 i2 i3)) h) (bO (zAe0 i1 i2 i3)) rfl (r:=[.bool (!aZ)]) kr (fun X' hM hC=>⟨(!aZ),hm,rfl,((hS.cell (id:=901) (t:=3) (cs:=[I al]) kr).out (f:=(bO (zAe0 i1 i2 i3))) hC kr kr (hP.at 0 rfl)),((hS.cell (id:=902) (t:=3) (cs:=[I ap]) kr).out (f:=(bO (zAe0 i1 i2 i3))) hC kr kr (hP.at 1 rfl)),((hS.cell (id:=903) (t:=43) (cs:=[Sl a1 aL c1]) kr).out (f:=(bO (zAe0 i1 i2 i3))) hC kr kr (hP.at 2 rfl))⟩)
 replace hS:=hS.lit (t:=15) kr hb
 replace hm:=hm.2 hb
 refine eP T hS ⟨[(5,B false)],[(901,(3,[I al])),(902,(3,[I ap])),(903,(43,[Sl a1 aL c1]))]⟩ fun a hS=>?_
 refine aV ?_
 exact gy T hS hO (fun c h=>bT kr h) (fun c h=>bU (l:=(zAe0 i1 i2 i3)) h) (bO (zAe0 i1 i2 i3)) rfl (r:=[.bool false]) kr (fun X' hM hC=>⟨false,hm,rfl,((hS.cell (id:=901) (t:=3) (cs:=[I al]) kr).out (f:=(bO (zAe0 i1 i2 i3))) hC kr kr (hP.at 0 rfl)),((hS.cell (id:=902) (t:=3) (cs:=[I ap]) kr).out (f:=(bO (zAe0 i1 i2 i3))) hC kr kr (hP.at 1 rfl)),((hS.cell (id:=903) (t:=43) (cs:=[Sl a1 aL c1]) kr).out (f:=(bO (zAe0 i1 i2 i3))) hC kr kr (hP.at 2 rfl))⟩)
theorem C75 (Ko:S76) (Fr:S77) (v:∀ (p_:Int × Int) (al:Int) (ap:Int) (aL:List Int),VC75 p_ al ap aL (fun r=>r=ca p_ al ap aL)):S75:=by
 intro w X p_ al ap aL a1 c1  b1 i1 b2 i2 b3 i3 h1 fb gp lb hA
 refine (W75 Ko Fr w X p_ al ap aL a1 c1  b1 i1 b2 i2 b3 i3 _ (v p_ al ap aL) h1 fb gp lb hA).mono ?_
 rintro _ _ _ _ ⟨r,rfl,h⟩
 exact h
theorem W93_75 (Kp:S75) (w0) (X0) (s_:List (Int × Int)) (al:Int) (ap:Int) (aL:List Int) (a1) (c1) (a2) (c2) (b1) (i1) (b2) (i2) (b3) (i3) (Q:Int->Prop) (hm:VC93_75 s_ al ap aL Q) (h1:RS tP2 w0 X0 a1 s_ c1) (h2:RS tI w0 X0 a2 aL c2) (fb:Cell w0 X0 b1 i1 3 [.int .i64 al]) (gp:Cell w0 X0 b2 i2 3 [.int .i64 ap]) (lb:Cell w0 X0 b3 i3 43 [.slice a2 aL.length c2]) (hA:dP [i1,i2,i3]) :
  Ret Tryz.prog 93 #[.slice a1 s_.length c1,.func (.func 75) #[] #[.pointer (some ⟨b1,0,none⟩),.pointer (some ⟨b2,0,none⟩),.pointer (some ⟨b3,0,none⟩)]] (pR [i1,i2,i3]) w0 X0 (fun w X' v=>∃ r,Q r/\v=.int .i64 r/\Cell w X' b1 i1 3 [.int .i64 al]/\Cell w X' b2 i2 3 [.int .i64 ap]/\Cell w X' b3 i3 43 [.slice a2 aL.length c2]):=by
 unfold VC93_75 at hm
 replace hm:=hm (h1.sm kr)
 replace hm:=hm (h2.sm kr)
 refine fv Tryz.func93 rfl (dB (zAe0 i1 i2 i3)) (fun id=>(bif Nat.beq id 901 then b1 else (bif Nat.beq id 902 then b2 else (bif Nat.beq id 903 then b3 else 0)))) (args:=[Sl a1 s_ c1,.f (.func 75) [] [.p 901 0,.p 902 0,.p 903 0]]) (bxs:=[(901,(3,[I al])),(902,(3,[I ap])),(903,(43,[Sl a2 aL c2]))]) kr rfl (bn.cons kr (fb.map (bK 0 hA.1 rfl)) (bn.cons kr (gp.map (bK 1 hA.1 rfl)) (bn.cons kr (lb.map (bK 2 hA.1 rfl)) bn.nil))) (fe (fun q hq=>(hA.2 q.1 (List.mem_map.2 ⟨q,hq,rfl⟩)).1)) ?_
 intro a hS hO hM
 have hP:Pin [(901,b1),(902,b2),(903,b3)] (fun id=>(bif Nat.beq id 901 then b1 else (bif Nat.beq id 902 then b2 else (bif Nat.beq id 903 then b3 else 0)))):=by intro q hq; simp at hq; rcases hq with rfl | rfl | rfl <;> rfl
 generalize (fun id=>(bif Nat.beq id 901 then b1 else (bif Nat.beq id 902 then b2 else (bif Nat.beq id 903 then b3 else 0))))=Z at hS hP
 clear fb gp lb
 replace h1:=h1.m0 hM
 replace h2:=h2.m0 hM
 refine rPe T hS [] [] fun a hS=>?_
 refine b5 (fun a w=>∃ Z X,VC93_75_J1 Q/\St Tryz.f93.ntmps ⟨[],[(901,(3,[I al])),(902,(3,[I ap])),(903,(43,[Sl a2 aL c2]))]⟩ Z a w X/\fO (dB (zAe0 i1 i2 i3)) w0 X0 w X/\Pin [(901,b1),(902,b2),(903,b3)] Z/\RS tI w X a2 aL c2) ?_ ?_
 ·refine rPe T hS [] [(7,I (lN s_)),(8,I 0)] fun a hS=>?_
  refine aK ?_
  obtain ⟨I1,μ1,ci,hm⟩:=hm
  refine cg (σ:=Int) (fun s a w=>∃ Z X,I1 s/\St Tryz.f93.ntmps ⟨[(0,Sl a1 s_ c1),(1,.f (.func 75) [] [.p 901 0,.p 902 0,.p 903 0]),(7,I (lN s_)),(8,I s)],[(901,(3,[I al])),(902,(3,[I ap])),(903,(43,[Sl a2 aL c2]))]⟩ Z a w X/\fO (dB (zAe0 i1 i2 i3)) w0 X0 w X/\Pin [(901,b1),(902,b2),(903,b3)] Z/\RS tP2 w X a1 s_ c1/\RS tI w X a2 aL c2) (fun s=>μ1 s) (0) ?_ ?_
  ·exact ⟨Z,_,ci,hS.sl _,hO,hP,h1,h2⟩
  rintro be a vA ⟨Z,Gq,hI,hS,hO,hP,h102,h104⟩
  replace hm:=hm be hI
  clear hI ci
  refine rPe T hS [] [(9,B (decide (be < (lN s_))))] fun a hS=>?_
  refine bc ?_
  refine aG hS (b:=decide (be < (lN s_))) kr (fun hb=>?_) fun hb=>?_
  ·replace hm:=hm.1 hb
   refine aJ (bc ?_)
   refine aK ?_
   refine rPe T hS [9] [(5,I be)] fun a hS=>?_
   refine bl ?_
   refine oPe T hS 3 [] [(11,.f (.func 75) [] [.p 901 0,.p 902 0,.p 903 0]),(12,Sl a1 s_ c1),(13,I be)] fun a hS=>?_
   obtain ⟨hq,hm⟩:=hm
   refine op1 (index (e:=131) (k:=.i64) T hS kr kr kr kr h102 kr kr hq.1 hq.2 ?_)
   intro wL a h106 hS
   refine op1 (eD T hS kr kr kr h106 kr kr ?_)
   intro v107 a hv hS
   subst hv
   refine op1 (jK (fi:=[]) (cp:=[.p 901 0,.p 902 0,.p 903 0]) hS kr kr hb75 kr kr (Kp _ _ (gi s_ be) al ap aL a2 c2 (Z 901) 901 (Z 902) 902 (Z 903) 903 h104 (hS.cell (id:=901) (t:=3) (cs:=[I al]) kr) (hS.cell (id:=902) (t:=3) (cs:=[I ap]) kr) (hS.cell (id:=903) (t:=43) (cs:=[Sl a2 aL c2]) kr) ⟨by decide,by decide⟩) ?_)
   intro v108 a pz q8 hE hp hS
   replace hO:=hO.m2 hE
   replace h102:=h102.m1 hE
   replace h104:=h104.m1 hE
   replace h106:=h106.m1 hE
   obtain ⟨hp,Eu,Et,Es⟩:=hp
   obtain ⟨cZ,hr⟩:∃ r,ca (gi s_ be) al ap aL=r:=⟨_,rfl⟩
   replace hm:=hm cZ hr
   rw [hr] at hp
   clear hr
   subst hp
   replace hS:=hS.cB (id:=901) (t:=3) (cs:=[I al]) kr Eu
   replace hS:=hS.cB (id:=902) (t:=3) (cs:=[I ap]) kr Et
   replace hS:=hS.cB (id:=903) (t:=43) (cs:=[Sl a2 aL c2]) kr Es
   clear Eu Et Es
   refine gA ?_
   refine aG hS (b:=cZ) kr (fun hb=>?_) fun hb=>?_
   ·replace hm:=hm.1 hb
    refine rPe T hS [0,1,5,7,8,16] [(4,I be)] fun a hS=>?_
    refine aV ?_
    exact gy T hS hO (fun c h=>bT kr h) (fun c h=>bU (l:=(zAe0 i1 i2 i3)) h) (bO (zAe0 i1 i2 i3)) rfl (r:=[.int .i64 be]) kr (fun X' hM hC=>⟨be,hm,rfl,((hS.cell (id:=901) (t:=3) (cs:=[I al]) kr).out (f:=(bO (zAe0 i1 i2 i3))) hC kr kr (hP.at 0 rfl)),((hS.cell (id:=902) (t:=3) (cs:=[I ap]) kr).out (f:=(bO (zAe0 i1 i2 i3))) hC kr kr (hP.at 1 rfl)),((hS.cell (id:=903) (t:=43) (cs:=[Sl a2 aL c2]) kr).out (f:=(bO (zAe0 i1 i2 i3))) hC kr kr (hP.at 2 rfl))⟩)
   replace hm:=hm.2 hb
   refine aJ ?_
   refine region (ePe T hS [5,16] [(8,I (wR (be+1)))] fun a hS=>?_)
   exact ⟨wR (be+1),⟨Z,_,hm.1,hS.sl _,hO,hP,h102,h104⟩,hm.2⟩
  replace hm:=hm.2 hb
  refine cb (by rfl) ?_
  exact ⟨Z,_,hm,hS.sl _,hO,hP,h104⟩
 rintro a Ae ⟨Z,zM,hm,hS,hO,hP,h101⟩
 unfold VC93_75_J1 at hm
 refine rPe T hS [] [(4,I (-1))] fun a hS=>?_
 refine aV ?_
 exact gy T hS hO (fun c h=>bT kr h) (fun c h=>bU (l:=(zAe0 i1 i2 i3)) h) (bO (zAe0 i1 i2 i3)) rfl (r:=[.int .i64 (-1)]) kr (fun X' hM hC=>⟨(-1),hm,rfl,((hS.cell (id:=901) (t:=3) (cs:=[I al]) kr).out (f:=(bO (zAe0 i1 i2 i3))) hC kr kr (hP.at 0 rfl)),((hS.cell (id:=902) (t:=3) (cs:=[I ap]) kr).out (f:=(bO (zAe0 i1 i2 i3))) hC kr kr (hP.at 1 rfl)),((hS.cell (id:=903) (t:=43) (cs:=[Sl a2 aL c2]) kr).out (f:=(bO (zAe0 i1 i2 i3))) hC kr kr (hP.at 2 rfl))⟩)
theorem C93_75 (Kp:S75) (v:∀ (s_:List (Int × Int)) (al:Int) (ap:Int) (aL:List Int),VC93_75 s_ al ap aL (fun r=>r=bm s_ al ap aL)):S93_75:=by
 intro w X s_ al ap aL a1 c1 a2 c2  b1 i1 b2 i2 b3 i3 h1 h2 fb gp lb hA
 refine (W93_75 Kp w X s_ al ap aL a1 c1 a2 c2  b1 i1 b2 i2 b3 i3 _ (v s_ al ap aL) h1 h2 fb gp lb hA).mono ?_
 rintro _ _ _ _ ⟨r,rfl,h⟩
 exact h
theorem W78_75 (v1:S93_75) (w0) (X0) (s_:List (Int × Int)) (al:Int) (ap:Int) (aL:List Int) (a1) (c1) (a2) (c2) (b1) (i1) (b2) (i2) (b3) (i3) (Q:Bool->Prop) (hm:VC78_75 s_ al ap aL Q) (h1:RS tP2 w0 X0 a1 s_ c1) (h2:RS tI w0 X0 a2 aL c2) (fb:Cell w0 X0 b1 i1 3 [.int .i64 al]) (gp:Cell w0 X0 b2 i2 3 [.int .i64 ap]) (lb:Cell w0 X0 b3 i3 43 [.slice a2 aL.length c2]) (hA:dP [i1,i2,i3]) :
  Ret Tryz.prog 78 #[.slice a1 s_.length c1,.func (.func 75) #[] #[.pointer (some ⟨b1,0,none⟩),.pointer (some ⟨b2,0,none⟩),.pointer (some ⟨b3,0,none⟩)]] (pR [i1,i2,i3]) w0 X0 (fun w X' v=>∃ r,Q r/\v=.bool r/\Cell w X' b1 i1 3 [.int .i64 al]/\Cell w X' b2 i2 3 [.int .i64 ap]/\Cell w X' b3 i3 43 [.slice a2 aL.length c2]):=by
 unfold VC78_75 at hm
 replace hm:=hm (h1.sm kr)
 replace hm:=hm (h2.sm kr)
 refine fv Tryz.func78 rfl (dB (zAe0 i1 i2 i3)) (fun id=>(bif Nat.beq id 901 then b1 else (bif Nat.beq id 902 then b2 else (bif Nat.beq id 903 then b3 else 0)))) (args:=[Sl a1 s_ c1,.f (.func 75) [] [.p 901 0,.p 902 0,.p 903 0]]) (bxs:=[(901,(3,[I al])),(902,(3,[I ap])),(903,(43,[Sl a2 aL c2]))]) kr rfl (bn.cons kr (fb.map (bK 0 hA.1 rfl)) (bn.cons kr (gp.map (bK 1 hA.1 rfl)) (bn.cons kr (lb.map (bK 2 hA.1 rfl)) bn.nil))) (fe (fun q hq=>(hA.2 q.1 (List.mem_map.2 ⟨q,hq,rfl⟩)).1)) ?_
 intro a hS hO hM
 have hP:Pin [(901,b1),(902,b2),(903,b3)] (fun id=>(bif Nat.beq id 901 then b1 else (bif Nat.beq id 902 then b2 else (bif Nat.beq id 903 then b3 else 0)))):=by intro q hq; simp at hq; rcases hq with rfl | rfl | rfl <;> rfl
 generalize (fun id=>(bif Nat.beq id 901 then b1 else (bif Nat.beq id 902 then b2 else (bif Nat.beq id 903 then b3 else 0))))=Z at hS hP
 clear fb gp lb
 replace h1:=h1.m0 hM
 replace h2:=h2.m0 hM
 refine rPe T hS [] [] fun a hS=>?_
 refine bl ?_
 refine oPe T hS 2 [0,1] [(5,Sl a1 s_ c1),(6,.f (.func 75) [] [.p 901 0,.p 902 0,.p 903 0])] fun a hS=>?_
 refine op1 (lx hS kr kr hb93 kr (v1 _ _ s_ al ap aL a1 c1 a2 c2 (Z 901) 901 (Z 902) 902 (Z 903) 903 h1 h2 (hS.cell (id:=901) (t:=3) (cs:=[I al]) kr) (hS.cell (id:=902) (t:=3) (cs:=[I ap]) kr) (hS.cell (id:=903) (t:=43) (cs:=[Sl a2 aL c2]) kr) ⟨by decide,by decide⟩) ?_)
 intro v101 a eX e8 hE hp hS
 replace hO:=hO.m2 hE
 replace h1:=h1.m1 hE
 replace h2:=h2.m1 hE
 obtain ⟨hp,uy,ux,qq⟩:=hp
 obtain ⟨am,hr⟩:∃ r,bm s_ al ap aL=r:=⟨_,rfl⟩
 replace hm:=hm am hr
 rw [hr] at hp
 clear hr
 subst hp
 replace hS:=hS.cB (id:=901) (t:=3) (cs:=[I al]) kr uy
 replace hS:=hS.cB (id:=902) (t:=3) (cs:=[I ap]) kr ux
 replace hS:=hS.cB (id:=903) (t:=43) (cs:=[Sl a2 aL c2]) kr qq
 clear uy ux qq
 refine ePe T hS [5,6,7] [(4,B (decide (am≥0)))] fun a hS=>?_
 refine aV ?_
 exact gy T hS hO (fun c h=>bT kr h) (fun c h=>bU (l:=(zAe0 i1 i2 i3)) h) (bO (zAe0 i1 i2 i3)) rfl (r:=[.bool (decide (am≥0))]) kr (fun X' hM hC=>⟨(decide (am≥0)),hm,rfl,((hS.cell (id:=901) (t:=3) (cs:=[I al]) kr).out (f:=(bO (zAe0 i1 i2 i3))) hC kr kr (hP.at 0 rfl)),((hS.cell (id:=902) (t:=3) (cs:=[I ap]) kr).out (f:=(bO (zAe0 i1 i2 i3))) hC kr kr (hP.at 1 rfl)),((hS.cell (id:=903) (t:=43) (cs:=[Sl a2 aL c2]) kr).out (f:=(bO (zAe0 i1 i2 i3))) hC kr kr (hP.at 2 rfl))⟩)
theorem C78_75 (v1:S93_75) (v:∀ (s_:List (Int × Int)) (al:Int) (ap:Int) (aL:List Int),VC78_75 s_ al ap aL (fun r=>r=bD s_ al ap aL)):S78_75:=by
 intro w X s_ al ap aL a1 c1 a2 c2  b1 i1 b2 i2 b3 i3 h1 h2 fb gp lb hA
 refine (W78_75 v1 w X s_ al ap aL a1 c1 a2 c2  b1 i1 b2 i2 b3 i3 _ (v s_ al ap aL) h1 h2 fb gp lb hA).mono ?_
 rintro _ _ _ _ ⟨r,rfl,h⟩
 exact h
theorem W74 (Fr:S77) (wb:S78_75) (w0) (X0) (x_:Int) (al:Int) (ap:List Int) (aL:List (Int × Int)) (a1) (c1) (a2) (c2) (b1) (i1) (b2) (i2) (b3) (i3) (Q:Bool->Prop) (hm:VC74 x_ al ap aL Q) (h1:RS tI w0 X0 a1 ap c1) (h2:RS tP2 w0 X0 a2 aL c2) (fb:Cell w0 X0 b1 i1 3 [.int .i64 al]) (gp:Cell w0 X0 b2 i2 43 [.slice a1 ap.length c1]) (lb:Cell w0 X0 b3 i3 95 [.slice a2 aL.length c2]) (hA:dP [i1,i2,i3]) :
  Ret Tryz.prog 74 #[.int .i64 x_,.pointer (some ⟨b1,0,none⟩),.pointer (some ⟨b2,0,none⟩),.pointer (some ⟨b3,0,none⟩)] (pR [i1,i2,i3]) w0 X0 (fun w X' v=>∃ r,Q r/\v=.bool r/\Cell w X' b1 i1 3 [.int .i64 al]/\Cell w X' b2 i2 43 [.slice a1 ap.length c1]/\Cell w X' b3 i3 95 [.slice a2 aL.length c2]):=by
 unfold VC74 at hm
 replace hm:=hm (h1.sm kr)
 replace hm:=hm (h2.sm kr)
 refine fv Tryz.func74 rfl (dB (zAe0 i1 i2 i3)) (fun id=>(bif Nat.beq id 901 then b1 else (bif Nat.beq id 902 then b2 else (bif Nat.beq id 903 then b3 else 0)))) (args:=[I x_,Pt 901 0,Pt 902 0,Pt 903 0]) (bxs:=[(901,(3,[I al])),(902,(43,[Sl a1 ap c1])),(903,(95,[Sl a2 aL c2]))]) kr rfl (bn.cons kr (fb.map (bK 0 hA.1 rfl)) (bn.cons kr (gp.map (bK 1 hA.1 rfl)) (bn.cons kr (lb.map (bK 2 hA.1 rfl)) bn.nil))) (fe (fun q hq=>(hA.2 q.1 (List.mem_map.2 ⟨q,hq,rfl⟩)).1)) ?_
 intro a hS hO hM
 have hP:Pin [(901,b1),(902,b2),(903,b3)] (fun id=>(bif Nat.beq id 901 then b1 else (bif Nat.beq id 902 then b2 else (bif Nat.beq id 903 then b3 else 0)))):=by intro q hq; simp at hq; rcases hq with rfl | rfl | rfl <;> rfl
 generalize (fun id=>(bif Nat.beq id 901 then b1 else (bif Nat.beq id 902 then b2 else (bif Nat.beq id 903 then b3 else 0))))=Z at hS hP
 clear fb gp lb
 replace h1:=h1.m0 hM
 replace h2:=h2.m0 hM
 refine rM T hS ⟨[(1,Pt 901 0),(2,Pt 902 0),(3,Pt 903 0),(4,Pt 5 0)],[(5,(3,[I x_])),(901,(3,[I al])),(902,(43,[Sl a1 ap c1])),(903,(95,[Sl a2 aL c2]))]⟩ fun Z a yk qL hS hE hr=>?_
 replace hO:=hO.m2 hE
 replace h1:=h1.m1 hE
 replace h2:=h2.m1 hE
 replace hP:=hP.mv hr kr
 clear hE hr
 refine rPe T hS [1] [(6,.f (.func 75) [] [.p 901 0,.p 5 0,.p 902 0])] fun a hS=>?_
 refine bl ?_
 refine oPe T hS 2 [2,4] [(8,Sl a1 ap c1),(9,I x_)] fun a hS=>?_
 refine op1 (call hS kr kr hb77 kr (fun _ _=>rfl) (Fr _ _ ap x_ a1 c1 h1) ?_)
 intro v101 a eX e8 hE hp hS
 replace hO:=hO.m2 hE
 replace h1:=h1.m1 hE
 replace h2:=h2.m1 hE
 obtain ⟨am,hr⟩:∃ r,ct ap x_=r:=⟨_,rfl⟩
 replace hm:=hm am hr
 rw [hr] at hp
 clear hr
 subst hp
 refine oPe T hS 1 [8,9,10] [(11,B am)] fun a hS=>?_
 rcases bft am with hb | hb
 ·replace hS:=hS.lit (t:=11) kr hb
  replace hm:=hm.1 hb
  refine eP T hS ⟨[(5,B true)],[(901,(3,[I al])),(902,(43,[Sl a1 ap c1])),(903,(95,[Sl a2 aL c2]))]⟩ fun a hS=>?_
  refine aV ?_
  exact gy T hS hO (fun c h=>bT kr h) (fun c h=>bU (l:=(zAe0 i1 i2 i3)) h) (bO (zAe0 i1 i2 i3)) rfl (r:=[.bool true]) kr (fun X' hM hC=>⟨true,hm,rfl,((hS.cell (id:=901) (t:=3) (cs:=[I al]) kr).out (f:=(bO (zAe0 i1 i2 i3))) hC kr kr (hP.at 0 rfl)),((hS.cell (id:=902) (t:=43) (cs:=[Sl a1 ap c1]) kr).out (f:=(bO (zAe0 i1 i2 i3))) hC kr kr (hP.at 1 rfl)),((hS.cell (id:=903) (t:=95) (cs:=[Sl a2 aL c2]) kr).out (f:=(bO (zAe0 i1 i2 i3))) hC kr kr (hP.at 2 rfl))⟩)
 replace hS:=hS.lit (t:=11) kr hb
 replace hm:=hm.2 hb
 refine oPe T hS 2 [3,6] [(12,Sl a2 aL c2),(13,.f (.func 75) [] [.p 901 0,.p 5 0,.p 902 0])] fun a hS=>?_
 refine op1 (lx hS kr kr hb78 kr (wb _ _ aL al x_ ap a2 c2 a1 c1 (Z 901) 901 (Z 5) 5 (Z 902) 902 h2 h1 (hS.cell (id:=901) (t:=3) (cs:=[I al]) kr) (hS.cell (id:=5) (t:=3) (cs:=[I x_]) kr) (hS.cell (id:=902) (t:=43) (cs:=[Sl a1 ap c1]) kr) ⟨by decide,by decide⟩) ?_)
 intro v105 a mD mj hE hp hS
 replace hO:=hO.m2 hE
 replace h1:=h1.m1 hE
 replace h2:=h2.m1 hE
 obtain ⟨hp,Ew,uw,uv⟩:=hp
 obtain ⟨aZ,hr⟩:∃ r,bD aL al x_ ap=r:=⟨_,rfl⟩
 replace hm:=hm aZ hr
 rw [hr] at hp
 clear hr
 subst hp
 replace hS:=hS.cB (id:=901) (t:=3) (cs:=[I al]) kr Ew
 replace hS:=hS.cB (id:=5) (t:=3) (cs:=[I x_]) kr uw
 replace hS:=hS.cB (id:=902) (t:=43) (cs:=[Sl a1 ap c1]) kr uv
 clear Ew uw uv
 refine eP T hS ⟨[(5,B aZ)],[(901,(3,[I al])),(902,(43,[Sl a1 ap c1])),(903,(95,[Sl a2 aL c2]))]⟩ fun a hS=>?_
 refine aV ?_
 exact gy T hS hO (fun c h=>bT kr h) (fun c h=>bU (l:=(zAe0 i1 i2 i3)) h) (bO (zAe0 i1 i2 i3)) rfl (r:=[.bool aZ]) kr (fun X' hM hC=>⟨aZ,hm,rfl,((hS.cell (id:=901) (t:=3) (cs:=[I al]) kr).out (f:=(bO (zAe0 i1 i2 i3))) hC kr kr (hP.at 0 rfl)),((hS.cell (id:=902) (t:=43) (cs:=[Sl a1 ap c1]) kr).out (f:=(bO (zAe0 i1 i2 i3))) hC kr kr (hP.at 1 rfl)),((hS.cell (id:=903) (t:=95) (cs:=[Sl a2 aL c2]) kr).out (f:=(bO (zAe0 i1 i2 i3))) hC kr kr (hP.at 2 rfl))⟩)
theorem C74 (Fr:S77) (wb:S78_75) (v:∀ (x_:Int) (al:Int) (ap:List Int) (aL:List (Int × Int)),VC74 x_ al ap aL (fun r=>r=c6 x_ al ap aL)):S74:=by
 intro w X x_ al ap aL a1 c1 a2 c2  b1 i1 b2 i2 b3 i3 h1 h2 fb gp lb hA
 refine (W74 Fr wb w X x_ al ap aL a1 c1 a2 c2  b1 i1 b2 i2 b3 i3 _ (v x_ al ap aL) h1 h2 fb gp lb hA).mono ?_
 rintro _ _ _ _ ⟨r,rfl,h⟩
 exact h
theorem W44 (Kq:S74) (w0) (X0) (n_:Int) (pairs:List (Int × Int)) (a1) (c1) (Q:(List Int) × Bool->Prop) (hm:VC44 n_ pairs Q) (h1:RS tP2 w0 X0 a1 pairs c1) :
  Ret Tryz.prog 44 #[.int .i64 n_,.slice a1 pairs.length c1] aI w0 X0 (fun w X' v=>∃ r,Q r/\∃ co cn,v=.tuple #[.slice co r.1.length cn,.bool r.2]/\RS tI w X' co r.1 cn):=by
 unfold VC44 at hm
 replace hm:=hm (h1.sm kr)
 refine enter Tryz.func44 rfl (vals:=[.int .i64 n_,.slice a1 pairs.length c1]) kr ?_
 intro Z a hS hO hM
 replace h1:=h1.m0 hM
 refine rM T hS ⟨[(2,Pt 3 0),(3,Pt 4 0)],[(3,(3,[I n_])),(4,(95,[Sl a1 pairs c1]))]⟩ fun Z a GY Qv hS hE hr=>?_
 replace hO:=hO.m2 hE
 replace h1:=h1.m1 hE
 clear hE hr
 refine bc ?_
 refine rPe T hS [] [(14,B ((decide (n_ < 0)) || (decide (n_ > 64))))] (sp:=[11]) fun a hS=>?_
 refine aG hS (b:=((decide (n_ < 0)) || (decide (n_ > 64)))) kr (fun hb=>?_) fun hb=>?_
 ·replace hm:=hm.1 hb
  refine rP T hS ⟨[(4,V (.slice none 0 0)),(5,B false)],[]⟩ fun a hS=>?_
  refine aV ?_
  exact fin T hS hO (fun c=>c) rfl (r:=[.slice none 0 0,.bool false]) kr (fun X' hM hC=>⟨([],false),hm,none,0,rfl,RS.empty _ _ _⟩)
 replace hm:=hm.2 hb
 refine aJ ?_
 refine bl ?_
 refine oPe T hS 1 [14] [(15,I n_)] fun a hS=>?_
 obtain ⟨hq,hm⟩:=hm
 refine op1 (make (E:=3) (kl:=.i64) (kc:=.i64) (col:=1005) (T:=tI) T 0 hS kr kr kr kr kr kr hq.1 hq.2.1 (by have:=hq.2.2; have e_:((tI.bytes:Nat):Int)=8:=rfl; rw [e_]; omega) (by have:=hq.2.2; omega) (fun _ _=>rfl) ?_)
 intro b101 a eX e8 hE h104 hN hS
 clear hq hN
 replace hO:=hO.m2 hE
 replace h1:=h1.m1 hE
 replace hS:=hS.conv (t:=16) (y:=.slice (some ⟨b101,0,none⟩) (List.replicate (0:Int).toNat (0:Int)).length n_.toNat) kr (by rw [List.length_replicate])
 refine eM T hS ⟨[(2,Pt 3 0),(3,Pt 4 0),(6,Pt 7 0)],[(3,(3,[I n_])),(4,(95,[Sl a1 pairs c1])),(7,(43,[V (.slice (some ⟨b101,0,none⟩) (List.replicate (0:Int).toNat (0:Int)).length n_.toNat)]))]⟩ fun Z a Cx IS hS hE hr=>?_
 replace hO:=hO.m2 hE
 replace h1:=h1.m1 hE
 replace h104:=h104.m2 hE
 clear hE hr
 refine rPe T hS [3] [(7,.f (.func 74) [] [.p 3 0,.p 7 0,.p 4 0])] fun a hS=>?_
 refine b5 (fun a w=>∃ (Z:Nat->Nat) (X:Nat->Nat) (fG:List Int) (iL:Option Addr) (iJ:Nat),VC44_J1 Q fG/\St Tryz.f44.ntmps ⟨[(6,Pt 7 0)],[(7,(43,[Sl iL fG iJ]))]⟩ Z a w X/\Old w0 X0 w X/\OS tI 3 w X 1005 iL fG iJ) ?_ ?_
 ·refine aK ?_
  obtain ⟨I1,μ1,ci,hm⟩:=hm
  refine cg (σ:=(List Int)) (fun s a w=>∃ Z X jf i9,I1 s/\St Tryz.f44.ntmps ⟨[(2,Pt 3 0),(6,Pt 7 0),(7,.f (.func 74) [] [.p 3 0,.p 7 0,.p 4 0])],[(3,(3,[I n_])),(4,(95,[Sl a1 pairs c1])),(7,(43,[Sl jf s i9]))]⟩ Z a w X/\Old w0 X0 w X/\RS tP2 w X a1 pairs c1/\OS tI 3 w X 1005 jf s i9) (fun s=>μ1 s) (List.replicate (0:Int).toNat (0:Int)) ?_ ?_
  ·exact ⟨Z,_,(some ⟨b101,0,none⟩),n_.toNat,ci,hS.sl _,hO,h1,h104⟩
  rintro cW a Cy ⟨Z,B3,jf,i9,hI,hS,hO,h111,h115⟩
  replace hm:=hm cW hI
  clear hI ci
  refine bc ?_
  refine rPe T hS [] [(21,B (decide ((lN cW) < n_)))] fun a hS=>?_
  refine aG hS (b:=decide ((lN cW) < n_)) kr (fun hb=>?_) fun hb=>?_
  ·replace hm:=hm.1 hb
   refine aJ ?_
   refine aK ?_
   refine rPe T hS [21] [(8,I 0)] fun a hS=>?_
   refine b5 (fun a w=>∃ (Z:Nat->Nat) (X:Nat->Nat) (aY:Int) (ji:List Int) (qK:Option Addr) (qD:Nat),VC44_J2 n_ Q I1 μ1 cW aY ji/\St Tryz.f44.ntmps ⟨[(2,Pt 3 0),(6,Pt 7 0),(7,.f (.func 74) [] [.p 3 0,.p 7 0,.p 4 0]),(8,I aY)],[(3,(3,[I n_])),(4,(95,[Sl a1 pairs c1])),(7,(43,[Sl qK ji qD]))]⟩ Z a w X/\Old w0 X0 w X/\RS tP2 w X a1 pairs c1/\OS tI 3 w X 1005 qK ji qD) ?_ ?_
   ·refine aK ?_
    obtain ⟨I2,μ2,ci,hm⟩:=hm
    refine cg (σ:=Int × (List Int)) (fun s a w=>∃ Z X mY mU,I2 s.1 s.2/\St Tryz.f44.ntmps ⟨[(2,Pt 3 0),(6,Pt 7 0),(7,.f (.func 74) [] [.p 3 0,.p 7 0,.p 4 0]),(8,I s.1)],[(3,(3,[I n_])),(4,(95,[Sl a1 pairs c1])),(7,(43,[Sl mY s.2 mU]))]⟩ Z a w X/\Old w0 X0 w X/\RS tP2 w X a1 pairs c1/\OS tI 3 w X 1005 mY s.2 mU) (fun s=>μ2 s.1 s.2) (⟨0,cW⟩) ?_ ?_
    ·exact ⟨Z,_,jf,i9,ci,hS.sl _,hO,h111,h115⟩
    rintro ⟨ma,fU⟩ a Cz ⟨Z,DK,mY,mU,hI,hS,hO,h134,h138⟩
    replace hm:=hm ma fU hI
    clear hI ci
    refine bc ?_
    refine b5 (fun a w=>∃ (Z:Nat->Nat) (X:Nat->Nat) (jh:Bool) (iZ:List Int) (jQ:Option Addr) (jM:Nat),VC44_J3 n_ Q I1 μ1 cW I2 μ2 ma fU jh iZ/\St Tryz.f44.ntmps ⟨[(2,Pt 3 0),(6,Pt 7 0),(7,.f (.func 74) [] [.p 3 0,.p 7 0,.p 4 0]),(8,I ma),(29,B jh)],[(3,(3,[I n_])),(4,(95,[Sl a1 pairs c1])),(7,(43,[Sl jQ iZ jM]))]⟩ Z a w X/\Old w0 X0 w X/\RS tP2 w X a1 pairs c1/\OS tI 3 w X 1005 jQ iZ jM) ?_ ?_
    ·refine region ?_
     refine oPe T hS 4 [] [(25,B (decide (ma < n_)))] fun a hS=>?_
     rcases bft (decide (ma < n_)) with hb | hb
     ·replace hS:=hS.lit (t:=25) kr hb
      replace hm:=hm.1 hb
      refine oPe T hS 2 [] [(26,.f (.func 74) [] [.p 3 0,.p 7 0,.p 4 0]),(27,I ma)] fun a hS=>?_
      have hb149:=(hS.cell (id:=3) (t:=3) (cs:=[I n_]) kr)
      have hb150:=(hS.cell (id:=7) (t:=43) (cs:=[Sl mY fU mU]) kr)
      have hb151:=(hS.cell (id:=4) (t:=95) (cs:=[Sl a1 pairs c1]) kr)
      refine op1 (jK (fi:=[]) (cp:=[.p 3 0,.p 7 0,.p 4 0]) hS kr kr hb74 kr kr (Ret.sb kr (Kq _ (eN 1005 _) ma n_ fU pairs mY mU a1 c1 (Z 3) 3 (Z 7) 7 (Z 4) 4 h138.eN (h134.m0 (M0.eN 1005)) (hb149.eN kr) (hb150.eN kr) (hb151.eN kr) ⟨by decide,by decide⟩)) ?_)
      intro v145 a CA Gn hE hp hS
      replace hO:=hO.m2 hE
      replace h134:=h134.m1 hE
      replace h138:=h138.m2 hE
      obtain ⟨li,_,hp⟩:=hp
      obtain ⟨hp,xN,xM,xL⟩:=hp
      replace xN:=xN.back hb149 li
      replace xM:=xM.back hb150 li
      replace xL:=xL.back hb151 li
      clear li hb149 hb150 hb151
      obtain ⟨yC,hr⟩:∃ r,c6 ma n_ fU pairs=r:=⟨_,rfl⟩
      replace hm:=hm yC hr
      rw [hr] at hp
      clear hr
      subst hp
      replace hS:=hS.cB (id:=3) (t:=3) (cs:=[I n_]) kr xN
      replace hS:=hS.cB (id:=7) (t:=43) (cs:=[Sl mY fU mU]) kr xM
      replace hS:=hS.cB (id:=4) (t:=95) (cs:=[Sl a1 pairs c1]) kr xL
      clear xN xM xL
      refine ePe T hS [25,26,27,28] [(29,B yC)] fun a hS=>?_
      exact ⟨Z,_,yC,fU,mY,mU,hm,hS.sl _,hO,h134,h138⟩
     replace hS:=hS.lit (t:=25) kr hb
     replace hm:=hm.2 hb
     refine ePe T hS [25] [(29,B false)] fun a hS=>?_
     exact ⟨Z,_,false,fU,mY,mU,hm,hS.sl _,hO,h134,h138⟩
    rintro a G1 ⟨Z,wD,jh,iZ,jQ,jM,hm,hS,hO,h140,h144⟩
    unfold VC44_J3 at hm
    refine aG hS (b:=jh) kr (fun hb=>?_) fun hb=>?_
    ·replace hm:=hm.1 hb
     refine aJ ?_
     refine aK ?_
     refine region (ePe T hS [29] [(8,I (wR (ma+1)))] fun a hS=>?_)
     exact ⟨⟨wR (ma+1),iZ⟩,⟨Z,_,jQ,jM,hm.1,hS.sl _,hO,h140,h144⟩,hm.2⟩
    replace hm:=hm.2 hb
    refine cb (by rfl) ?_
    exact ⟨Z,_,ma,iZ,jQ,jM,hm,hS.sl _,hO,h140,h144⟩
   rintro a z8 ⟨Z,Gk,aY,ji,qK,qD,hm,hS,hO,h117,h121⟩
   unfold VC44_J2 at hm
   refine bc ?_
   refine rPe T hS [] [(34,B (aY == n_))] fun a hS=>?_
   refine aG hS (b:=(aY == n_)) kr (fun hb=>?_) fun hb=>?_
   ·replace hm:=hm.1 hb
    refine rP T hS ⟨[(4,V (.slice none 0 0)),(5,B false)],[]⟩ fun a hS=>?_
    refine aV ?_
    exact fin T hS hO (fun c=>c) rfl (r:=[.slice none 0 0,.bool false]) kr (fun X' hM hC=>⟨([],false),hm,none,0,rfl,RS.empty _ _ _⟩)
   replace hm:=hm.2 hb
   refine aJ ?_
   refine region ?_
   refine oPe T hS 2 [8,34] [(35,Sl qK ji qD),(36,I aY)] fun a hS=>?_
   refine op1 (lit (E:=3) (col:=0) (T:=tI) (vals:=[.int .i64 aY]) (ys:=[aY]) T hS kr kr kr kr (by exact ⟨rfl,trivial⟩) rfl kr kr kr kr ?_)
   intro b122 a EZ wJ hE h125 hN hS
   clear hN
   replace hO:=hO.m2 hE
   replace h117:=h117.m1 hE
   replace h121:=h121.m2 hE
   replace h125:=h125.rs0
   obtain ⟨hq,hm⟩:=hm
   obtain ⟨news,hN⟩:=h125.src
   refine op1 (append (E:=3) (T:=tI) (col:=1005) (xs:=ji) T hS kr kr kr kr h121 hN kr kr kr kr hq ?_)
   intro lh le a r9 pc hE h128 hS
   clear hq hN
   clear h121
   replace hO:=hO.m2 hE
   replace h117:=h117.m1 hE
   replace h125:=h125.m1 hE
   refine eM T hS ⟨[(2,Pt 3 0),(6,Pt 7 0),(7,.f (.func 74) [] [.p 3 0,.p 7 0,.p 4 0])],[(3,(3,[I n_])),(4,(95,[Sl a1 pairs c1])),(7,(43,[Sl lh (ji++[aY]) le]))]⟩ fun Z a oW ow hS hE hr=>?_
   replace hO:=hO.m2 hE
   replace h117:=h117.m1 hE
   replace h128:=h128.m2 hE
   clear hE hr
   exact ⟨ji++[aY],⟨Z,_,lh,le,hm.1,hS.sl _,hO,h117,h128⟩,hm.2⟩
  replace hm:=hm.2 hb
  refine cb (by rfl) ?_
  exact ⟨Z,_,cW,jf,i9,hm,hS.sl _,hO,h115⟩
 rintro a ET ⟨Z,DI,fG,iL,iJ,hm,hS,hO,h108⟩
 unfold VC44_J1 at hm
 refine rP T hS ⟨[(4,Sl iL fG iJ),(5,B true)],[]⟩ fun a hS=>?_
 refine aV ?_
 obtain ⟨Ca,hE,hF⟩:=h108.freeze (by decide)
 replace hS:=hS.ev hE (cq kr)
 replace hO:=hO.m2 hE
 have h110:=hF; clear hE hF
 exact fin T hS hO (fun c=>c) rfl (r:=[.slice iL fG.length iJ,.bool true]) kr (fun X' hM hC=>⟨(fG,true),hm,iL,iJ,rfl,h110.m0 hM⟩)
theorem C44 (Kq:S74) (v:∀ (n_:Int) (pairs:List (Int × Int)),VC44 n_ pairs (fun r=>r=de n_ pairs)):S44:=by
 intro w X n_ pairs a1 c1   h1
 refine (W44 Kq w X n_ pairs a1 c1   _ (v n_ pairs) h1).mono ?_
 rintro _ _ _ _ ⟨r,rfl,h⟩
 exact h
theorem W47 (w0) (X0) (h_:ak) (a1) (c1) (a2) (c2) (Q:(List av)->Prop) (hm:VC47 h_ Q) (h1:RS ay w0 X0 a1 h_.ae c1) (h2:RS aM w0 X0 a2 h_.ao c2) :
  Ret Tryz.prog 47 #[.agg #[.slice a1 h_.ae.length c1,.slice a2 h_.ao.length c2]] aI w0 X0 (fun w X' v=>∃ r,Q r/\∃ co cn,v=.slice co r.length cn/\RS aO w X' co r cn):=by
 unfold VC47 at hm
 replace hm:=hm (h1.sm kr)
 replace hm:=hm (h2.sm kr)
 refine enter Tryz.func47 rfl (vals:=[.agg #[.slice a1 h_.ae.length c1,.slice a2 h_.ao.length c2]]) kr ?_
 intro Z a hS hO hM
 replace h1:=h1.m0 hM
 replace h2:=h2.m0 hM
 refine rM T hS ⟨[(1,Pt 2 0)],[(2,(25,[Sl a1 h_.ae c1,Sl a2 h_.ao c2]))]⟩ fun Z a oW ow hS hE hr=>?_
 replace hO:=hO.m2 hE
 replace h1:=h1.m1 hE
 replace h2:=h2.m1 hE
 clear hE hr
 refine rPe T hS [] [(3,V (.slice none 0 0))] fun a hS=>?_
 refine b5 (fun a w=>∃ (Z:Nat->Nat) (X:Nat->Nat) (bv:List av) (dm:Option Addr) (dl:Nat),VC47_J1 Q bv/\St Tryz.f47.ntmps ⟨[(3,Sl dm bv dl)],[]⟩ Z a w X/\Old w0 X0 w X/\OS aO 61 w X 1003 dm bv dl) ?_ ?_
 ·refine rP T hS ⟨[(3,V (.slice none 0 0)),(7,Sl a2 h_.ao c2),(8,I (lN h_.ao)),(9,I 0)],[]⟩ fun a hS=>?_
  refine aK ?_
  obtain ⟨I1,μ1,ci,hm⟩:=hm
  refine cg (σ:=(List av) × Int) (fun s a w=>∃ Z X gr gq,I1 s.1 s.2/\St Tryz.f47.ntmps ⟨[(3,Sl gr s.1 gq),(7,Sl a2 h_.ao c2),(8,I (lN h_.ao)),(9,I s.2)],[]⟩ Z a w X/\Old w0 X0 w X/\OS aO 61 w X 1003 gr s.1 gq/\RS aM w X a2 h_.ao c2) (fun s=>μ1 s.1 s.2) (⟨[],0⟩) ?_ ?_
  ·exact ⟨Z,_,none,0,ci,hS.sl _,hO,(OS.nil _ _ _ _ _),h2⟩
  rintro ⟨gu,cW⟩ a qS ⟨Z,pc,gr,gq,hI,hS,hO,h110,h111⟩
  replace hm:=hm gu cW hI
  clear hI ci
  refine rPe T hS [] [(10,B (decide (cW < (lN h_.ao))))] fun a hS=>?_
  refine bc ?_
  refine aG hS (b:=decide (cW < (lN h_.ao))) kr (fun hb=>?_) fun hb=>?_
  ·replace hm:=hm.1 hb
   refine aJ (bc ?_)
   refine aK ?_
   refine bl ?_
   obtain ⟨hq,hm⟩:=hm
   refine op1 (index (e:=63) (k:=.i64) T hS kr kr kr kr h111 kr kr hq.1 hq.2 ?_)
   intro Gy a h114 hS
   refine op1 (eD T hS kr kr kr h114 kr kr ?_)
   intro v115 a hv hS
   subst hv
   refine eM T hS ⟨[(3,Sl gr gu gq),(5,Pt 6 0),(7,Sl a2 h_.ao c2),(8,I (lN h_.ao)),(9,I cW)],[(6,(63,[I ((gi h_.ao cW).ax),I (((gi h_.ao cW).aS).bk),I (((gi h_.ao cW).aS).aj),I (((gi h_.ao cW).aS).N)]))]⟩ fun Z a yj wI hS hE hr=>?_
   replace hO:=hO.m2 hE
   replace h110:=h110.m2 hE
   replace h111:=h111.m1 hE
   clear hE hr
   refine region ?_
   refine oP T hS 3 ⟨[(3,Sl gr gu gq),(7,Sl a2 h_.ao c2),(8,I (lN h_.ao)),(9,I cW),(13,Sl gr gu gq),(15,V (.agg #[.int .i64 (((gi h_.ao cW).aS).bk),.int .i64 (((gi h_.ao cW).aS).aj),.int .i64 (((gi h_.ao cW).aS).N)]))],[]⟩ fun a hS=>?_
   refine op1 (lit (E:=61) (col:=0) (T:=aO) (vals:=[.agg #[.int .i64 (((gi h_.ao cW).aS).bk),.int .i64 (((gi h_.ao cW).aS).aj),.int .i64 (((gi h_.ao cW).aS).N)]]) (ys:=[((gi h_.ao cW).aS)]) T hS kr kr kr kr (by exact ⟨rfl,trivial⟩) rfl kr kr kr kr ?_)
   intro b116 a Af DN hE h119 hN hS
   clear hN
   replace hO:=hO.m2 hE
   replace h110:=h110.m2 hE
   replace h111:=h111.m1 hE
   replace h119:=h119.rs0
   obtain ⟨hq,hm⟩:=hm
   obtain ⟨news,hN⟩:=h119.src
   refine op1 (append (E:=61) (T:=aO) (col:=1003) (xs:=gu) T hS kr kr kr kr h110 hN kr kr kr kr hq ?_)
   intro ov oo a E0 Gp hE h122 hS
   clear hq hN
   clear h110
   replace hO:=hO.m2 hE
   replace h111:=h111.m1 hE
   replace h119:=h119.m1 hE
   refine ePe T hS [15,16,17] [(3,Sl ov (gu++[((gi h_.ao cW).aS)]) oo)] fun a hS=>?_
   refine region (ePe T hS [] [(9,I (wR (cW+1)))] fun a hS=>?_)
   exact ⟨⟨gu++[((gi h_.ao cW).aS)],wR (cW+1)⟩,⟨Z,_,ov,oo,hm.1,hS.sl _,hO,h122,h111⟩,hm.2⟩
  replace hm:=hm.2 hb
  refine cb (by rfl) ?_
  exact ⟨Z,_,gu,gr,gq,hm,hS.sl _,hO,h110⟩
 rintro a tA ⟨Z,q7,bv,dm,dl,hm,hS,hO,h104⟩
 unfold VC47_J1 at hm
 refine rPe T hS [3] [(2,Sl dm bv dl)] fun a hS=>?_
 refine aV ?_
 obtain ⟨ox,hE,hF⟩:=h104.freeze (by decide)
 replace hS:=hS.ev hE (cq kr)
 replace hO:=hO.m2 hE
 have h106:=hF; clear hE hF
 exact fin T hS hO (fun c=>c) rfl (r:=[.slice dm bv.length dl]) kr (fun X' hM hC=>⟨bv,hm,dm,dl,rfl,h106.m0 hM⟩)
theorem C47 (v:∀ (h_:ak),lq h_->VC47 h_ (fun r=>r=bN h_)):S47:=by
 intro w X h_ a1 c1 a2 c2   hp h1 h2
 refine (W47 w X h_ a1 c1 a2 c2   _ (v h_ hp) h1 h2).mono ?_
 rintro _ _ _ _ ⟨r,rfl,h⟩
 exact h
theorem W52 (sR:S53) (w0) (X0) (o_:ah) (a1) (c1) (Q:Bool->Prop) (hm:VC52 o_ Q) (h1:RS az w0 X0 a1 o_.Rows c1) :
  Ret Tryz.prog 52 #[.agg #[.int .i64 o_.ar,.int .i64 o_.aw,.int .i64 o_.aE,.slice a1 o_.Rows.length c1]] aI w0 X0 (fun w X' v=>∃ r,Q r/\v=.bool r):=by
 unfold VC52 at hm
 replace hm:=hm (h1.sm kr)
 refine enter Tryz.func52 rfl (vals:=[.agg #[.int .i64 o_.ar,.int .i64 o_.aw,.int .i64 o_.aE,.slice a1 o_.Rows.length c1]]) kr ?_
 intro Z a hS hO hM
 replace h1:=h1.m0 hM
 refine rM T hS ⟨[(1,Pt 2 0)],[(2,(48,(cO o_ a1 c1)))]⟩ fun Z a mE lB hS hE hr=>?_
 replace hO:=hO.m2 hE
 replace h1:=h1.m1 hE
 clear hE hr
 refine bl ?_
 refine oP T hS 1 ⟨[(6,V (.agg #[.int .i64 o_.ar,.int .i64 o_.aw,.int .i64 o_.aE,.slice a1 o_.Rows.length c1]))],[]⟩ fun a hS=>?_
 obtain ⟨hq,hm⟩:=hm
 refine op1 (call hS kr kr hb53 kr (fun _ _=>rfl) (sR _ _ o_ a1 c1 hq h1) ?_)
 intro v101 a eX e8 hE hp hS
 replace hO:=hO.m2 hE
 replace h1:=h1.m1 hE
 obtain ⟨am,hr⟩:∃ r,br o_=r:=⟨_,rfl⟩
 replace hm:=hm am hr
 rw [hr] at hp
 clear hr
 subst hp
 refine ePe T hS [6,7] [(4,I am.2)] fun a hS=>?_
 refine rPe T hS [4] [(2,B (am.2 != 0))] fun a hS=>?_
 refine aV ?_
 exact fin T hS hO (fun c=>c) rfl (r:=[.bool (am.2 != 0)]) kr (fun X' hM hC=>⟨(am.2 != 0),hm,rfl⟩)
theorem C52 (sR:S53) (v:∀ (o_:ah),jW o_->VC52 o_ (fun r=>r=cM o_)):S52:=by
 intro w X o_ a1 c1   hp h1
 refine (W52 sR w X o_ a1 c1   _ (v o_ hp) h1).mono ?_
 rintro _ _ _ _ ⟨r,rfl,h⟩
 exact h
theorem W83_52 (KC:S52) (w0) (X0) (s_:List ah) (a1) (c1) (Q:Int->Prop) (hm:VC83_52 s_ Q) (h1:RS ay w0 X0 a1 s_ c1) (hA:dP []) :
  Ret Tryz.prog 83 #[.slice a1 s_.length c1,.func (.func 52) #[] #[]] (pR []) w0 X0 (fun w X' v=>∃ r,Q r/\v=.int .i64 r):=by
 unfold VC83_52 at hm
 replace hm:=hm (h1.sm kr)
 refine fv Tryz.func83 rfl (dB []) (fun id=>0) (args:=[Sl a1 s_ c1,.f (.func 52) [] []]) (bxs:=[]) kr rfl bn.nil (fe (fun q hq=>(hA.2 q.1 (List.mem_map.2 ⟨q,hq,rfl⟩)).1)) ?_
 intro a hS hO hM
 generalize (fun id:Nat=>0)=Z at hS
 replace h1:=h1.m0 hM
 refine rPe T hS [] [] fun a hS=>?_
 refine b5 (fun a w=>∃ Z X,VC83_52_J1 Q/\St Tryz.f83.ntmps ⟨[],[]⟩ Z a w X/\fO (dB []) w0 X0 w X) ?_ ?_
 ·refine rPe T hS [] [(7,I (lN s_)),(8,I 0)] fun a hS=>?_
  refine aK ?_
  obtain ⟨I1,μ1,ci,hm⟩:=hm
  refine cg (σ:=Int) (fun s a w=>∃ Z X,I1 s/\St Tryz.f83.ntmps ⟨[(0,Sl a1 s_ c1),(1,.f (.func 52) [] []),(7,I (lN s_)),(8,I s)],[]⟩ Z a w X/\fO (dB []) w0 X0 w X/\RS ay w X a1 s_ c1) (fun s=>μ1 s) (0) ?_ ?_
  ·exact ⟨Z,_,ci,hS.sl _,hO,h1⟩
  rintro bu a G3 ⟨Z,qL,hI,hS,hO,h101⟩
  replace hm:=hm bu hI
  clear hI ci
  refine rPe T hS [] [(9,B (decide (bu < (lN s_))))] fun a hS=>?_
  refine bc ?_
  refine aG hS (b:=decide (bu < (lN s_))) kr (fun hb=>?_) fun hb=>?_
  ·replace hm:=hm.1 hb
   refine aJ (bc ?_)
   refine aK ?_
   refine rPe T hS [9] [(5,I bu)] fun a hS=>?_
   refine bl ?_
   refine oPe T hS 3 [] [(11,.f (.func 52) [] []),(12,Sl a1 s_ c1),(13,I bu)] fun a hS=>?_
   obtain ⟨hq,hm⟩:=hm
   refine op1 (index (e:=48) (k:=.i64) T hS kr kr kr kr h101 kr kr hq.1 hq.2 ?_)
   intro tv a h104 hS
   refine op1 (eD T hS kr kr kr h104 kr kr ?_)
   intro v105 a hv hS
   obtain ⟨iL,iJ,hv,h108⟩:=hv
   subst hv
   replace hm:=hm (h108.sm kr)
   obtain ⟨hq,hm⟩:=hm
   refine op1 (EK (fi:=[]) (cp:=[]) hS kr kr hb52 kr kr (fun _ _=>rfl) (KC _ _ (gi s_ bu) iL iJ hq h108) ?_)
   intro v109 a E3 Gr hE hp hS
   replace hO:=hO.m2 hE
   replace h101:=h101.m1 hE
   replace h104:=h104.m1 hE
   replace h108:=h108.m1 hE
   obtain ⟨bH,hr⟩:∃ r,cM (gi s_ bu)=r:=⟨_,rfl⟩
   replace hm:=hm bH hr
   rw [hr] at hp
   clear hr
   subst hp
   refine gA ?_
   refine aG hS (b:=bH) kr (fun hb=>?_) fun hb=>?_
   ·replace hm:=hm.1 hb
    refine rPe T hS [0,1,5,7,8,16] [(4,I bu)] fun a hS=>?_
    refine aV ?_
    exact gy T hS hO (fun c h=>bT kr h) (fun c h=>bU (l:=[]) h) (bO []) rfl (r:=[.int .i64 bu]) kr (fun X' hM hC=>⟨bu,hm,rfl⟩)
   replace hm:=hm.2 hb
   refine aJ ?_
   refine region (ePe T hS [5,16] [(8,I (wR (bu+1)))] fun a hS=>?_)
   exact ⟨wR (bu+1),⟨Z,_,hm.1,hS.sl _,hO,h101⟩,hm.2⟩
  replace hm:=hm.2 hb
  refine cb (by rfl) ?_
  exact ⟨Z,_,hm,hS.sl _,hO⟩
 rintro a vA ⟨Z,Gq,hm,hS,hO⟩
 unfold VC83_52_J1 at hm
 refine rPe T hS [] [(4,I (-1))] fun a hS=>?_
 refine aV ?_
 exact gy T hS hO (fun c h=>bT kr h) (fun c h=>bU (l:=[]) h) (bO []) rfl (r:=[.int .i64 (-1)]) kr (fun X' hM hC=>⟨(-1),hm,rfl⟩)
theorem C83_52 (KC:S52) (v:∀ (s_:List ah),lr s_->VC83_52 s_ (fun r=>r=a9 s_)):S83_52:=by
 intro w X s_ a1 c1   hp h1 hA
 refine (W83_52 KC w X s_ a1 c1   _ (v s_ hp) h1 hA).mono ?_
 rintro _ _ _ _ ⟨r,rfl,h⟩
 exact h
theorem W54_52 (v2:S83_52) (w0) (X0) (s_:List ah) (a1) (c1) (Q:Bool->Prop) (hm:VC54_52 s_ Q) (h1:RS ay w0 X0 a1 s_ c1) (hA:dP []) :
  Ret Tryz.prog 54 #[.slice a1 s_.length c1,.func (.func 52) #[] #[]] (pR []) w0 X0 (fun w X' v=>∃ r,Q r/\v=.bool r):=by
 unfold VC54_52 at hm
 replace hm:=hm (h1.sm kr)
 refine fv Tryz.func54 rfl (dB []) (fun id=>0) (args:=[Sl a1 s_ c1,.f (.func 52) [] []]) (bxs:=[]) kr rfl bn.nil (fe (fun q hq=>(hA.2 q.1 (List.mem_map.2 ⟨q,hq,rfl⟩)).1)) ?_
 intro a hS hO hM
 generalize (fun id:Nat=>0)=Z at hS
 replace h1:=h1.m0 hM
 refine rPe T hS [] [] fun a hS=>?_
 refine bl ?_
 refine oPe T hS 2 [0,1] [(5,Sl a1 s_ c1),(6,.f (.func 52) [] [])] fun a hS=>?_
 obtain ⟨hq,hm⟩:=hm
 refine op1 (lx hS kr kr hb83 kr (v2 _ _ s_ a1 c1 hq h1 ⟨by decide,by decide⟩) ?_)
 intro v101 a eX e8 hE hp hS
 replace hO:=hO.m2 hE
 replace h1:=h1.m1 hE
 obtain ⟨am,hr⟩:∃ r,a9 s_=r:=⟨_,rfl⟩
 replace hm:=hm am hr
 rw [hr] at hp
 clear hr
 subst hp
 refine ePe T hS [5,6,7] [(4,B (decide (am≥0)))] fun a hS=>?_
 refine aV ?_
 exact gy T hS hO (fun c h=>bT kr h) (fun c h=>bU (l:=[]) h) (bO []) rfl (r:=[.bool (decide (am≥0))]) kr (fun X' hM hC=>⟨(decide (am≥0)),hm,rfl⟩)
theorem C54_52 (v2:S83_52) (v:∀ (s_:List ah),lr s_->VC54_52 s_ (fun r=>r=aW s_)):S54_52:=by
 intro w X s_ a1 c1   hp h1 hA
 refine (W54_52 v2 w X s_ a1 c1   _ (v s_ hp) h1 hA).mono ?_
 rintro _ _ _ _ ⟨r,rfl,h⟩
 exact h
theorem W23 (AC:S47) (we:S54_52) (Fv:S55) (w0) (X0) (h_:ak) (a1) (c1) (a2) (c2) (Q:Int × Int->Prop) (hm:VC23 h_ Q) (h1:RS ay w0 X0 a1 h_.ae c1) (h2:RS aM w0 X0 a2 h_.ao c2) :
  Ret Tryz.prog 23 #[.agg #[.slice a1 h_.ae.length c1,.slice a2 h_.ao.length c2]] aI w0 X0 (fun w X' v=>∃ r,Q r/\v=.tuple #[.int .i64 r.1,.int .i64 r.2]):=by
 unfold VC23 at hm
 replace hm:=hm (h1.sm kr)
 replace hm:=hm (h2.sm kr)
 refine enter Tryz.func23 rfl (vals:=[.agg #[.slice a1 h_.ae.length c1,.slice a2 h_.ao.length c2]]) kr ?_
 intro Z a hS hO hM
 replace h1:=h1.m0 hM
 replace h2:=h2.m0 hM
 refine rM T hS ⟨[(1,Pt 2 0)],[(2,(25,[Sl a1 h_.ae c1,Sl a2 h_.ao c2]))]⟩ fun Z a JS IR hS hE hr=>?_
 replace hO:=hO.m2 hE
 replace h1:=h1.m1 hE
 replace h2:=h2.m1 hE
 clear hE hr
 refine rPe T hS [] [(4,.f (.func 52) [] [])] fun a hS=>?_
 refine bc ?_
 refine b5 (fun a w=>∃ (Z:Nat->Nat) (X:Nat->Nat) (bv:Bool),VC23_J1 h_ Q bv/\St Tryz.f23.ntmps ⟨[(1,Pt 2 0),(25,B bv)],[(2,(25,[Sl a1 h_.ae c1,Sl a2 h_.ao c2]))]⟩ Z a w X/\Old w0 X0 w X/\RS ay w X a1 h_.ae c1/\RS aM w X a2 h_.ao c2) ?_ ?_
 ·refine region ?_
  refine oPe T hS 11 [] [(20,B ((decide ((lN h_.ae) < 1)) || (decide ((lN h_.ae) > 8))))] (sp:=[14]) fun a hS=>?_
  rcases bft ((decide ((lN h_.ae) < 1)) || (decide ((lN h_.ae) > 8))) with hb | hb
  ·replace hS:=hS.lit (t:=20) kr hb
   replace hm:=hm.1 hb
   refine ePe T hS [4,20] [(25,B true)] fun a hS=>?_
   exact ⟨Z,_,true,hm,hS.sl _,hO,h1,h2⟩
  replace hS:=hS.lit (t:=20) kr hb
  replace hm:=hm.2 hb
  refine oPe T hS 3 [4] [(22,Sl a1 h_.ae c1),(23,.f (.func 52) [] [])] fun a hS=>?_
  obtain ⟨hq,hm⟩:=hm
  refine op1 (lx hS kr kr hb54 kr (we _ _ h_.ae a1 c1 hq h1 ⟨by decide,by decide⟩) ?_)
  intro v160 a G0 Ms hE hp hS
  replace hO:=hO.m2 hE
  replace h1:=h1.m1 hE
  replace h2:=h2.m1 hE
  obtain ⟨yA,hr⟩:∃ r,aW h_.ae=r:=⟨_,rfl⟩
  replace hm:=hm yA hr
  rw [hr] at hp
  clear hr
  subst hp
  refine ePe T hS [20,22,23,24] [(25,B yA)] fun a hS=>?_
  exact ⟨Z,_,yA,hm,hS.sl _,hO,h1,h2⟩
 rintro a Cx ⟨Z,Gj,bv,hm,hS,hO,h102,h103⟩
 unfold VC23_J1 at hm
 refine aG hS (b:=bv) kr (fun hb=>?_) fun hb=>?_
 ·replace hm:=hm.1 hb
  refine rP T hS ⟨[(2,I (-1)),(3,I 2)],[]⟩ fun a hS=>?_
  refine aV ?_
  exact fin T hS hO (fun c=>c) rfl (r:=[.int .i64 (-1),.int .i64 2]) kr (fun X' hM hC=>⟨((-1),2),hm,rfl⟩)
 replace hm:=hm.2 hb
 refine aJ (bc ?_)
 refine bl ?_
 refine oPe T hS 1 [25] [(27,V (.agg #[.slice a1 h_.ae.length c1,.slice a2 h_.ao.length c2]))] fun a hS=>?_
 obtain ⟨hq,hm⟩:=hm
 refine op1 (call hS kr kr hb47 kr (fun _ _=>rfl) (AC _ _ (⟨h_.ae,h_.ao⟩:ak) a1 c1 a2 c2 hq h102 h103) ?_)
 intro v104 a mE lB hE hp hS
 replace hO:=hO.m2 hE
 replace h102:=h102.m1 hE
 replace h103:=h103.m1 hE
 obtain ⟨gr,gq,hp,h110⟩:=hp
 obtain ⟨mH,hr⟩:∃ r,bN (⟨h_.ae,h_.ao⟩:ak)=r:=⟨_,rfl⟩
 replace hm:=hm mH hr
 rw [hr] at hp h110
 clear hr
 subst hp
 replace hm:=hm (h110.sm kr)
 refine op1 (call hS kr kr hb55 kr (fun _ _=>rfl) (Fv _ _ mH gr gq h110) ?_)
 intro v111 a yk qL hE hp hS
 replace hO:=hO.m2 hE
 replace h102:=h102.m1 hE
 replace h103:=h103.m1 hE
 replace h110:=h110.m1 hE
 obtain ⟨cV,hr⟩:∃ r,bP mH=r:=⟨_,rfl⟩
 replace hm:=hm cV hr
 rw [hr] at hp
 clear hr
 subst hp
 refine ePe T hS [27,28,29] [(5,I cV.1),(6,I cV.2)] fun a hS=>?_
 refine rPe T hS [] [(33,B (cV.2 != 0))] fun a hS=>?_
 refine aG hS (b:=(cV.2 != 0)) kr (fun hb=>?_) fun hb=>?_
 ·replace hm:=hm.1 hb
  refine rP T hS ⟨[(2,I cV.1),(3,I cV.2)],[]⟩ fun a hS=>?_
  refine aV ?_
  exact fin T hS hO (fun c=>c) rfl (r:=[.int .i64 cV.1,.int .i64 cV.2]) kr (fun X' hM hC=>⟨(cV.1,cV.2),hm,rfl⟩)
 replace hm:=hm.2 hb
 refine aJ ?_
 refine bl ?_
 refine op1 (oH kI tI false 1037 hS kr kr ?_)
 intro cJ a vA zM hE h118 hS
 replace hO:=hO.m2 hE
 replace h102:=h102.m1 hE
 replace h103:=h103.m1 hE
 refine ePe T hS [5,6,33,36] [(7,V (.map (some cJ)))] fun a hS=>?_
 refine b5 (fun a w=>∃ Z X,VC23_J2 h_ Q/\St Tryz.f23.ntmps ⟨[(1,Pt 2 0)],[(2,(25,[Sl a1 h_.ae c1,Sl a2 h_.ao c2]))]⟩ Z a w X/\Old w0 X0 w X/\RS ay w X a1 h_.ae c1/\RS aM w X a2 h_.ao c2) ?_ ?_
 ·refine rPe T hS [] [(38,Sl a2 h_.ao c2),(39,I (lN h_.ao)),(40,I 0)] fun a hS=>?_
  refine aK ?_
  obtain ⟨I1,μ1,ci,hm⟩:=hm
  refine cg (σ:=(List (Int × Int)) × Int) (fun s a w=>∃ Z X,I1 s.1 s.2/\St Tryz.f23.ntmps ⟨[(1,Pt 2 0),(7,V (.map (some cJ))),(38,Sl a2 h_.ao c2),(39,I (lN h_.ao)),(40,I s.2)],[(2,(25,[Sl a1 h_.ae c1,Sl a2 h_.ao c2]))]⟩ Z a w X/\Old w0 X0 w X/\OM kI tI false w X 1037 cJ s.1/\RS aM w X a2 h_.ao c2/\RS ay w X a1 h_.ae c1/\RS aM w X a2 h_.ao c2) (fun s=>μ1 s.1 s.2) (⟨([]:List (Int × Int)),0⟩) ?_ ?_
  ·exact ⟨Z,_,ci,hS.sl _,hO,h118,h103,h102,h103⟩
  rintro ⟨ib,dQ⟩ a yg ⟨Z,B4,hI,hS,hO,h122,h123,h125,h126⟩
  replace hm:=hm ib dQ hI
  clear hI ci
  refine rPe T hS [] [(41,B (decide (dQ < (lN h_.ao))))] fun a hS=>?_
  refine bc ?_
  refine aG hS (b:=decide (dQ < (lN h_.ao))) kr (fun hb=>?_) fun hb=>?_
  ·replace hm:=hm.1 hb
   refine aJ (bc ?_)
   refine aK ?_
   refine bl ?_
   refine oPe T hS 1 [41] [(42,I dQ)] fun a hS=>?_
   obtain ⟨hq,hm⟩:=hm
   refine op1 (index (e:=63) (k:=.i64) T hS kr kr kr kr h123 kr kr hq.1 hq.2 ?_)
   intro MG a h128 hS
   refine op1 (eD T hS kr kr kr h128 kr kr ?_)
   intro v129 a hv hS
   subst hv
   refine eM T hS ⟨[(1,Pt 2 0),(7,V (.map (some cJ))),(8,I dQ),(9,Pt 10 0),(38,Sl a2 h_.ao c2),(39,I (lN h_.ao)),(40,I dQ)],[(2,(25,[Sl a1 h_.ae c1,Sl a2 h_.ao c2])),(10,(63,[I ((gi h_.ao dQ).ax),I (((gi h_.ao dQ).aS).bk),I (((gi h_.ao dQ).aS).aj),I (((gi h_.ao dQ).aS).N)]))]⟩ fun Z a r6 wD hS hE hr=>?_
   replace hO:=hO.m2 hE
   replace h122:=h122.m2 hE
   replace h123:=h123.m1 hE
   replace h125:=h125.m1 hE
   replace h126:=h126.m1 hE
   clear hE hr
   refine bc ?_
   refine aK ?_
   refine rPe T hS [] [(45,B ((decide (((gi h_.ao dQ).ax) < 0)) || (decide (((gi h_.ao dQ).ax)≥(lN h_.ae)))))] (sp:=[49]) fun a hS=>?_
   refine aG hS (b:=((decide (((gi h_.ao dQ).ax) < 0)) || (decide (((gi h_.ao dQ).ax)≥(lN h_.ae))))) kr (fun hb=>?_) fun hb=>?_
   ·replace hm:=hm.1 hb
    refine rP T hS ⟨[(2,I dQ),(3,I 2)],[]⟩ fun a hS=>?_
    refine aV ?_
    exact fin T hS hO (fun c=>c) rfl (r:=[.int .i64 dQ,.int .i64 2]) kr (fun X' hM hC=>⟨(dQ,2),hm,rfl⟩)
   replace hm:=hm.2 hb
   refine b5 (fun a w=>∃ (Z:Nat->Nat) (X:Nat->Nat) (gm:Bool),VC23_J3 h_ Q I1 μ1 ib dQ gm/\St Tryz.f23.ntmps ⟨[(1,Pt 2 0),(7,V (.map (some cJ))),(8,I dQ),(9,Pt 10 0),(38,Sl a2 h_.ao c2),(39,I (lN h_.ao)),(40,I dQ),(58,B gm)],[(2,(25,[Sl a1 h_.ae c1,Sl a2 h_.ao c2])),(10,(63,[I ((gi h_.ao dQ).ax),I (((gi h_.ao dQ).aS).bk),I (((gi h_.ao dQ).aS).aj),I (((gi h_.ao dQ).aS).N)]))]⟩ Z a w X/\Old w0 X0 w X/\OM kI tI false w X 1037 cJ ib/\RS aM w X a2 h_.ao c2/\RS ay w X a1 h_.ae c1/\RS aM w X a2 h_.ao c2) ?_ ?_
   ·refine region ?_
    refine oPe T hS 5 [45] [(63,B ((((gi h_.ao dQ).aS).bk) == 2))] fun a hS=>?_
    rcases bft ((((gi h_.ao dQ).aS).bk) == 2) with hb | hb
    ·replace hS:=hS.lit (t:=63) kr hb
     replace hm:=hm.1 hb
     refine oPe T hS 4 [] [(64,V (.map (some cJ))),(67,I (((gi h_.ao dQ).aS).aj))] fun a hS=>?_
     refine op1 (jC kI tI false (zv:=.int .i64 0) (z:=0) (((gi h_.ao dQ).aS).aj) hS kr kr kr kr Tryz.underlying113 Tryz.underlying3 kr rfl h122 ?_)
     intro v151 a hv hS
     replace hv:tI.R _ _ [v151] _:=hv
     cases hv
     refine ePe T hS [63,64,67,68] [(58,B (((aC ib (((gi h_.ao dQ).aS).aj)).getD 0) != ((gi h_.ao dQ).ax)))] fun a hS=>?_
     exact ⟨Z,_,(((aC ib (((gi h_.ao dQ).aS).aj)).getD 0) != ((gi h_.ao dQ).ax)),hm,hS.sl _,hO,h122,h123,h125,h126⟩
    replace hS:=hS.lit (t:=63) kr hb
    replace hm:=hm.2 hb
    refine ePe T hS [63] [(58,B false)] fun a hS=>?_
    exact ⟨Z,_,false,hm,hS.sl _,hO,h122,h123,h125,h126⟩
   rintro a z9 ⟨Z,wE,gm,hm,hS,hO,h130,h131,h133,h134⟩
   unfold VC23_J3 at hm
   refine aG hS (b:=gm) kr (fun hb=>?_) fun hb=>?_
   ·replace hm:=hm.1 hb
    refine rP T hS ⟨[(2,I dQ),(3,I 32)],[]⟩ fun a hS=>?_
    refine aV ?_
    exact fin T hS hO (fun c=>c) rfl (r:=[.int .i64 dQ,.int .i64 32]) kr (fun X' hM hC=>⟨(dQ,32),hm,rfl⟩)
   replace hm:=hm.2 hb
   refine b5 (fun a w=>∃ (Z:Nat->Nat) (X:Nat->Nat) (Cv:Bool),VC23_J4 h_ Q I1 μ1 ib dQ Cv/\St Tryz.f23.ntmps ⟨[(1,Pt 2 0),(7,V (.map (some cJ))),(8,I dQ),(9,Pt 10 0),(38,Sl a2 h_.ao c2),(39,I (lN h_.ao)),(40,I dQ),(74,B Cv)],[(2,(25,[Sl a1 h_.ae c1,Sl a2 h_.ao c2])),(10,(63,[I ((gi h_.ao dQ).ax),I (((gi h_.ao dQ).aS).bk),I (((gi h_.ao dQ).aS).aj),I (((gi h_.ao dQ).aS).N)]))]⟩ Z a w X/\Old w0 X0 w X/\OM kI tI false w X 1037 cJ ib/\RS aM w X a2 h_.ao c2/\RS ay w X a1 h_.ae c1/\RS aM w X a2 h_.ao c2) ?_ ?_
   ·refine hJ [2,10] mixed hS ?_
    intro py q6 hS hE hD hH
    replace hO:=hO.m2 hE
    replace h130:=h130.m2 hE
    replace h131:=h131.m1 hE
    replace h133:=h133.m1 hE
    replace h134:=h134.m1 hE
    refine tke T [0,1,2,3,4] [2,10] hS hH #[true,true,true,true,true,false,false,false,false,false,false,false,false,false,false,false,false,false] 13 [] [(79,B ((((gi h_.ao dQ).aS).bk) == 1))] fun a hS=>?_
    rcases bft ((((gi h_.ao dQ).aS).bk) == 1) with hb | hb
    ·replace hS:=hS.lit (t:=79) kr hb
     replace hm:=hm.1 hb
     refine tke T [5,8,10,6,9,11,7] [2,10] hS hH #[true,true,true,true,true,true,true,true,true,true,true,true,false,false,false,false,false,false] 6 [] [(82,I (((gi h_.ao dQ).aS).N)),(84,Sl a1 h_.ae c1),(86,I ((gi h_.ao dQ).ax))] fun a hS=>?_
     obtain ⟨hq,hm⟩:=hm
     refine db (e:=48) (k:=.i64) T 12 hS kr kr kr (by rfl) kr hH kr kr h133 kr kr hq.1 hq.2 ?_
     intro Q9 a h145 hS
     have HR:=h145.here
     refine du (off:=1) (fsz:=1) (ft:=3) (TF:=tI) (y:=(gi h_.ae ((gi h_.ao dQ).ax)).aw) 13 T hS kr kr kr (by rfl) kr hH kr h145 kr kr kr (fun cs h=>mA h) ?_
     intro Q8 a h147 fy hS
     have EC:=HR
     rw [← fy] at EC
     clear fy
     refine dU T 14 hS kr kr kr (by rfl) kr hH kr h147 EC rfl kr ?_
     intro v148 a hv hS
     cases hv
     refine tke T [15,16,17] [2,10] hS hH (tts 18) 0 [79,82,84,86,87,88,89] [(74,B (decide ((((gi h_.ao dQ).aS).N)≥((gi h_.ae ((gi h_.ao dQ).ax)).aw))))] fun a hS=>?_
     refine aU kr ?_
     replace hS:=hS.sle [] []
     exact ⟨Z,_,decide ((((gi h_.ao dQ).aS).N)≥((gi h_.ae ((gi h_.ao dQ).ax)).aw)),hm,hS.sl _,hO,h130,h131,h133,h134⟩
    replace hS:=hS.lit (t:=79) kr hb
    replace hm:=hm.2 hb
    refine tke T [5,8,10,6,9,11,7,12,13,14,15,16,17] [2,10] hS hH (tts 18) 0 [79] [(74,B false)] fun a hS=>?_
    refine aU kr ?_
    replace hS:=hS.sle [] []
    exact ⟨Z,_,false,hm,hS.sl _,hO,h130,h131,h133,h134⟩
   rintro a Aa ⟨Z,wF,Cv,hm,hS,hO,h135,h136,h138,h139⟩
   unfold VC23_J4 at hm
   refine aG hS (b:=Cv) kr (fun hb=>?_) fun hb=>?_
   ·replace hm:=hm.1 hb
    refine rP T hS ⟨[(2,I dQ),(3,I 31)],[]⟩ fun a hS=>?_
    refine aV ?_
    exact fin T hS hO (fun c=>c) rfl (r:=[.int .i64 dQ,.int .i64 31]) kr (fun X' hM hC=>⟨(dQ,31),hm,rfl⟩)
   replace hm:=hm.2 hb
   refine aJ ?_
   refine region ?_
   refine oP T hS 6 ⟨[(1,Pt 2 0),(7,V (.map (some cJ))),(38,Sl a2 h_.ao c2),(39,I (lN h_.ao)),(40,I dQ),(93,V (.map (some cJ))),(96,I (((gi h_.ao dQ).aS).aj)),(98,I ((gi h_.ao dQ).ax))],[(2,(25,[Sl a1 h_.ae c1,Sl a2 h_.ao c2]))]⟩ fun a hS=>?_
   refine op1 (sN kI tI false (v:=I ((gi h_.ao dQ).ax)) (u:=(gi h_.ao dQ).ax) (((gi h_.ao dQ).aS).aj) hS kr kr kr kr Tryz.underlying113 Tryz.underlying3 kr h135 rfl ?_)
   intro a yh hE h141 hS
   clear h135
   replace hO:=hO.m2 hE
   replace h136:=h136.m1 hE
   replace h138:=h138.m1 hE
   replace h139:=h139.m1 hE
   refine gA ?_
   refine region (ePe T hS [] [(40,I (wR (dQ+1)))] fun a hS=>?_)
   exact ⟨⟨dj ib (((gi h_.ao dQ).aS).aj) ((gi h_.ao dQ).ax),wR (dQ+1)⟩,⟨Z,_,hm.1,hS.sl _,hO,h141,h136,h138,h139⟩,hm.2⟩
  replace hm:=hm.2 hb
  refine cb (by rfl) ?_
  exact ⟨Z,_,hm,hS.sl _,hO,h125,h126⟩
 rintro a yf ⟨Z,zI,hm,hS,hO,h119,h120⟩
 unfold VC23_J2 at hm
 refine rP T hS ⟨[(2,I (lN h_.ao)),(3,I 0)],[]⟩ fun a hS=>?_
 refine aV ?_
 exact fin T hS hO (fun c=>c) rfl (r:=[.int .i64 (lN h_.ao),.int .i64 0]) kr (fun X' hM hC=>⟨((lN h_.ao),0),hm,rfl⟩)
theorem C23 (AC:S47) (we:S54_52) (Fv:S55) (v:∀ (h_:ak),fQ h_->VC23 h_ (fun r=>r=aB h_)):S23:=by
 intro w X h_ a1 c1 a2 c2   hp h1 h2
 refine (W23 AC we Fv w X h_ a1 c1 a2 c2   _ (v h_ hp) h1 h2).mono ?_
 rintro _ _ _ _ ⟨r,rfl,h⟩
 exact h
theorem W45 (w0) (X0) (l_:List aD) (a1) (c1) (Q:(List av)->Prop) (hm:VC45 l_ Q) (h1:RS bA w0 X0 a1 l_ c1) :
  Ret Tryz.prog 45 #[.slice a1 l_.length c1] aI w0 X0 (fun w X' v=>∃ r,Q r/\∃ co cn,v=.slice co r.length cn/\RS aO w X' co r cn):=by
 unfold VC45 at hm
 replace hm:=hm (h1.sm kr)
 refine enter Tryz.func45 rfl (vals:=[.slice a1 l_.length c1]) kr ?_
 intro Z a hS hO hM
 replace h1:=h1.m0 hM
 refine rPe T hS [] [] fun a hS=>?_
 refine rPe T hS [] [(3,V (.slice none 0 0))] fun a hS=>?_
 refine b5 (fun a w=>∃ (Z:Nat->Nat) (X:Nat->Nat) (bv:List av) (dm:Option Addr) (dl:Nat),VC45_J1 Q bv/\St Tryz.f45.ntmps ⟨[(3,Sl dm bv dl)],[]⟩ Z a w X/\Old w0 X0 w X/\OS aO 61 w X 1003 dm bv dl) ?_ ?_
 ·refine rPe T hS [] [(4,I 0)] fun a hS=>?_
  refine aK ?_
  obtain ⟨I1,μ1,ci,hm⟩:=hm
  refine cg (σ:=(List av) × Int) (fun s a w=>∃ Z X cx cw,I1 s.1 s.2/\St Tryz.f45.ntmps ⟨[(0,Sl a1 l_ c1),(3,Sl cx s.1 cw),(4,I s.2)],[]⟩ Z a w X/\Old w0 X0 w X/\RS bA w X a1 l_ c1/\OS aO 61 w X 1003 cx s.1 cw) (fun s=>μ1 s.1 s.2) (⟨[],0⟩) ?_ ?_
  ·exact ⟨Z,_,none,0,ci,hS.sl _,hO,h1,(OS.nil _ _ _ _ _)⟩
  rintro ⟨dt,cW⟩ a qS ⟨Z,pc,cx,cw,hI,hS,hO,h107,h111⟩
  replace hm:=hm dt cW hI
  clear hI ci
  refine bc ?_
  refine rPe T hS [] [(8,B (decide (cW < (lN l_))))] fun a hS=>?_
  refine aG hS (b:=decide (cW < (lN l_))) kr (fun hb=>?_) fun hb=>?_
  ·replace hm:=hm.1 hb
   refine aJ (bc ?_)
   refine aK ?_
   refine region ?_
   refine oPe T hS 3 [8] [(11,Sl cx dt cw),(12,Sl a1 l_ c1),(13,I cW)] fun a hS=>?_
   obtain ⟨hq,hm⟩:=hm
   refine op1 (index (e:=77) (k:=.i64) T hS kr kr kr kr h107 kr kr hq.1 hq.2 ?_)
   intro Gy a h114 hS
   refine op1 (e7 (off:=1) (fsz:=3) (ft:=61) (TF:=aO) (y:=(gi l_ cW).aS) T hS kr kr kr h114 kr kr kr (fun cs h=>jS h) ?_)
   intro MK a h116 hS
   refine op1 (eD T hS kr kr kr h116 kr kr ?_)
   intro v117 a hv hS
   subst hv
   refine op1 (lit (E:=61) (col:=0) (T:=aO) (vals:=[.agg #[.int .i64 (((gi l_ cW).aS).bk),.int .i64 (((gi l_ cW).aS).aj),.int .i64 (((gi l_ cW).aS).N)]]) (ys:=[(gi l_ cW).aS]) T hS kr kr kr kr (by exact ⟨rfl,trivial⟩) rfl kr kr kr kr ?_)
   intro b118 a tD zL hE h121 hN hS
   clear hN
   replace hO:=hO.m2 hE
   replace h107:=h107.m1 hE
   replace h111:=h111.m2 hE
   replace h114:=h114.m1 hE
   replace h116:=h116.m1 hE
   replace h121:=h121.rs0
   obtain ⟨hq,hm⟩:=hm
   obtain ⟨news,hN⟩:=h121.src
   refine op1 (append (E:=61) (T:=aO) (col:=1003) (xs:=dt) T hS kr kr kr kr h111 hN kr kr kr kr hq ?_)
   intro ip ii a tC tq hE h124 hS
   clear hq hN
   clear h111
   replace hO:=hO.m2 hE
   replace h107:=h107.m1 hE
   replace h114:=h114.m1 hE
   replace h116:=h116.m1 hE
   replace h121:=h121.m1 hE
   refine ePe T hS [12,13,14,15,16,17,18] [(3,Sl ip (dt++[(gi l_ cW).aS]) ii)] fun a hS=>?_
   refine region (ePe T hS [] [(4,I (wR (cW+1)))] fun a hS=>?_)
   exact ⟨⟨dt++[(gi l_ cW).aS],wR (cW+1)⟩,⟨Z,_,ip,ii,hm.1,hS.sl _,hO,h107,h124⟩,hm.2⟩
  replace hm:=hm.2 hb
  refine cb (by rfl) ?_
  exact ⟨Z,_,dt,cx,cw,hm,hS.sl _,hO,h111⟩
 rintro a tA ⟨Z,q7,bv,dm,dl,hm,hS,hO,h104⟩
 unfold VC45_J1 at hm
 refine rPe T hS [3] [(2,Sl dm bv dl)] fun a hS=>?_
 refine aV ?_
 obtain ⟨ox,hE,hF⟩:=h104.freeze (by decide)
 replace hS:=hS.ev hE (cq kr)
 replace hO:=hO.m2 hE
 have h106:=hF; clear hE hF
 exact fin T hS hO (fun c=>c) rfl (r:=[.slice dm bv.length dl]) kr (fun X' hM hC=>⟨bv,hm,dm,dl,rfl,h106.m0 hM⟩)
theorem C45 (v:∀ (l_:List aD),rn l_->VC45 l_ (fun r=>r=cl l_)):S45:=by
 intro w X l_ a1 c1   hp h1
 refine (W45 w X l_ a1 c1   _ (v l_ hp) h1).mono ?_
 rintro _ _ _ _ ⟨r,rfl,h⟩
 exact h
theorem W59 (w0) (X0) (l_:List aD) (at_:Int) (a1) (c1) (Q:Int->Prop) (hm:VC59 l_ at_ Q) (h1:RS bA w0 X0 a1 l_ c1) :
  Ret Tryz.prog 59 #[.slice a1 l_.length c1,.int .i64 at_] aI w0 X0 (fun w X' v=>∃ r,Q r/\v=.int .i64 r):=by
 unfold VC59 at hm
 replace hm:=hm (h1.sm kr)
 refine enter Tryz.func59 rfl (vals:=[.slice a1 l_.length c1,.int .i64 at_]) kr ?_
 intro Z a hS hO hM
 replace h1:=h1.m0 hM
 refine rPe T hS [] [] fun a hS=>?_
 refine b5 (fun a w=>∃ Z X,VC59_J1 Q/\St Tryz.f59.ntmps ⟨[],[]⟩ Z a w X/\Old w0 X0 w X) ?_ ?_
 ·refine rPe T hS [] [(5,I (wR (at_ - 1)))] fun a hS=>?_
  refine aK ?_
  obtain ⟨I1,μ1,ci,hm⟩:=hm
  refine cg (σ:=Int) (fun s a w=>∃ Z X,I1 s/\St Tryz.f59.ntmps ⟨[(0,Sl a1 l_ c1),(1,I at_),(5,I s)],[]⟩ Z a w X/\Old w0 X0 w X/\RS bA w X a1 l_ c1) (fun s=>μ1 s) (wR (at_ - 1)) ?_ ?_
  ·exact ⟨Z,_,ci,hS.sl _,hO,h1⟩
  rintro bu a yj ⟨Z,wJ,hI,hS,hO,h101⟩
  replace hm:=hm bu hI
  clear hI ci
  refine bc ?_
  refine rPe T hS [] [(9,B (decide (bu≥0)))] fun a hS=>?_
  refine aG hS (b:=decide (bu≥0)) kr (fun hb=>?_) fun hb=>?_
  ·replace hm:=hm.1 hb
   refine aJ (bc ?_)
   refine aK ?_
   refine dw [] mixed hS ?_
   intro JV Qx hS hE hD hH
   replace hO:=hO.m2 hE
   replace h101:=h101.m1 hE
   refine tke T [0,1,6,7] [] hS hH #[true,true,false,false,false,false,true,true,false,false,false,false,false] 9 [] [(12,Sl a1 l_ c1),(13,I bu),(18,Sl a1 l_ c1),(19,I at_)] fun a hS=>?_
   obtain ⟨hq,hm⟩:=hm
   refine db (e:=77) (k:=.i64) T 2 hS kr kr kr (by rfl) kr hH kr kr h101 kr kr hq.1 hq.2 ?_
   intro wL a h106 hS
   have qu:=h106.here
   refine du (off:=1) (fsz:=3) (ft:=61) (TF:=aO) (y:=(gi l_ bu).aS) 3 T hS kr kr kr (by rfl) kr hH kr h106 kr kr kr (fun cs h=>jS h) ?_
   intro Gz a h108 fy hS
   have xU:=qu
   rw [← fy] at xU
   clear fy
   refine du (off:=1) (fsz:=1) (ft:=3) (TF:=tI) (y:=((gi l_ bu).aS).aj) 4 T hS kr kr kr (by rfl) kr hH kr h108 kr kr kr (fun cs h=>gR h) ?_
   intro zP a h110 fy hS
   have lQ:=xU
   rw [← fy] at lQ
   clear fy
   refine dU T 5 hS kr kr kr (by rfl) kr hH kr h110 lQ rfl kr ?_
   intro v111 a hv hS
   cases hv
   obtain ⟨hq,hm⟩:=hm
   refine db (e:=77) (k:=.i64) T 8 hS kr kr kr (by rfl) kr hH kr kr h101 kr kr hq.1 hq.2 ?_
   intro Ja a h113 hS
   have Bk:=h113.here
   refine du (off:=1) (fsz:=3) (ft:=61) (TF:=aO) (y:=(gi l_ at_).aS) 9 T hS kr kr kr (by rfl) kr hH kr h113 kr kr kr (fun cs h=>jS h) ?_
   intro DS a h115 fy hS
   have qt:=Bk
   rw [← fy] at qt
   clear fy
   refine du (off:=1) (fsz:=1) (ft:=3) (TF:=tI) (y:=((gi l_ at_).aS).aj) 10 T hS kr kr kr (by rfl) kr hH kr h115 kr kr kr (fun cs h=>gR h) ?_
   intro Gx a h117 fy hS
   have nl:=qt
   rw [← fy] at nl
   clear fy
   refine dU T 11 hS kr kr kr (by rfl) kr hH kr h117 nl rfl kr ?_
   intro v118 a hv hS
   cases hv
   refine tke T [12] [] hS hH (tts 13) 0 [12,13,18,19,14,15,16,17,20,21,22,23] [(24,B ((((gi l_ bu).aS).aj) == (((gi l_ at_).aS).aj)))] fun a hS=>?_
   refine aU kr ?_
   replace hS:=hS.sle [] []
   refine aG hS (b:=((((gi l_ bu).aS).aj) == (((gi l_ at_).aS).aj))) kr (fun hb=>?_) fun hb=>?_
   ·replace hm:=hm.1 hb
    refine bl ?_
    refine oPe T hS 2 [0,1,5,24] [(25,Sl a1 l_ c1),(26,I bu)] fun a hS=>?_
    obtain ⟨hq,hm⟩:=hm
    refine op1 (index (e:=77) (k:=.i64) T hS kr kr kr kr h101 kr kr hq.1 hq.2 ?_)
    intro MI a h120 hS
    refine op1 (e7 (off:=0) (fsz:=1) (ft:=3) (TF:=tI) (y:=(gi l_ bu).ax) T hS kr kr kr h120 kr kr kr (fun cs h=>lT h) ?_)
    intro Gv a h122 hS
    refine op1 (dL T hS kr kr kr h122 rfl kr ?_)
    intro v123 a hv hS
    cases hv
    refine ePe T hS [25,26,27,28,29] [(4,I ((gi l_ bu).ax))] fun a hS=>?_
    refine aV ?_
    exact fin T hS hO (fun c=>c) rfl (r:=[.int .i64 ((gi l_ bu).ax)]) kr (fun X' hM hC=>⟨((gi l_ bu).ax),hm,rfl⟩)
   replace hm:=hm.2 hb
   refine aJ ?_
   refine region (ePe T hS [24] [(5,I (wR (bu - 1)))] fun a hS=>?_)
   exact ⟨wR (bu - 1),⟨Z,_,hm.1,hS.sl _,hO,h101⟩,hm.2⟩
  replace hm:=hm.2 hb
  refine cb (by rfl) ?_
  exact ⟨Z,_,hm,hS.sl _,hO⟩
 rintro a tB ⟨Z,wI,hm,hS,hO⟩
 unfold VC59_J1 at hm
 refine rPe T hS [] [(4,I (-1))] fun a hS=>?_
 refine aV ?_
 exact fin T hS hO (fun c=>c) rfl (r:=[.int .i64 (-1)]) kr (fun X' hM hC=>⟨(-1),hm,rfl⟩)
theorem C59 (v:∀ (l_:List aD) (at_:Int),sC l_ at_->VC59 l_ at_ (fun r=>r=fh l_ at_)):S59:=by
 intro w X l_ at_ a1 c1   hp h1
 refine (W59 w X l_ at_ a1 c1   _ (v l_ at_ hp) h1).mono ?_
 rintro _ _ _ _ ⟨r,rfl,h⟩
 exact h
end Go.Proofs.YteahldlmkheleaaGreat
