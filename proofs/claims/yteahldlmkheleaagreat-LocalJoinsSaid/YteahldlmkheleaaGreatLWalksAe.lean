import Derived.Test.YteahldlmkheleaaGreatLWalksS
set_option linter.all false
namespace Go.Proofs.YteahldlmkheleaaGreat
open Go Go.Sv
abbrev zAe0 (i1 i2 i3:Nat):List (Nat × Nat):=[(i1,901),(i2,902),(i3,903)]
set_option maxHeartbeats 1000000
theorem W18 (Fc:S50) (w0) (X0) (l_:List au) (a1) (c1) (Q:(List ab) × Int->Prop) (hm:VC18 l_ Q) (h1:RS aO w0 X0 a1 l_ c1) :
  Ret Tryz.prog 18 #[.slice a1 l_.length c1] aJ w0 X0 (fun w X' v=>∃ r,Q r/\∃ cB cA,v=.tuple #[.slice cB r.1.length cA,.int .i64 r.2]/\RS ao w X' cB r.1 cA):=by
 unfold VC18 at hm
 replace hm:=hm (h1.sm kr)
 refine enter Tryz.func18 rfl (vals:=[.slice a1 l_.length c1]) kr ?_
 intro Z a hS hO hM
 replace h1:=h1.m0 hM
 refine rPe T hS [] [] fun a hS=>?_
 refine bn ?_
 refine oPe T hS 1 [] [(11,Sl a1 l_ c1)] fun a hS=>?_
 refine op1 (call hS kr kr hb50 kr (fun _ _=>rfl) (Fc _ _ l_ a1 c1 h1) ?_)
 intro v101 a fh fo hE hp hS
 replace hO:=hO.m2 hE
 replace h1:=h1.m1 hE
 obtain ⟨av,hr⟩:∃ r,eJ l_=r:=⟨_,rfl⟩
 replace hm:=hm av hr
 rw [hr] at hp
 clear hr
 subst hp
 refine ePe T hS [11,12] [(5,I av.2)] fun a hS=>?_
 refine bd ?_
 refine rPe T hS [] [(16,B (av.2 != 0))] fun a hS=>?_
 refine aF hS (b:=(av.2 != 0)) kr (fun hb=>?_) fun hb=>?_
 ·replace hm:=hm.1 hb
  refine rPe T hS [0,5,16] [(2,V (.slice none 0 0)),(3,I av.2)] fun a hS=>?_
  refine aZ ?_
  exact fin T hS hO (fun c=>c) rfl (r:=[.slice none 0 0,.int .i64 av.2]) kr (fun X' hM hC=>⟨([],av.2),hm,none,0,rfl,RS.empty _ _ _⟩)
 replace hm:=hm.2 hb
 refine aL ?_
 refine rPe T hS [5,16] [(6,V (.slice none 0 0))] fun a hS=>?_
 refine b5 (fun a w=>∃ (Z:Nat->Nat) (X:Nat->Nat) (gC:List ab) (j7:Option Addr) (jZ:Nat),VC18_J1 Q gC/\St Tryz.f18.ntmps ⟨[(6,Sl j7 gC jZ)],[]⟩ Z a w X/\Old w0 X0 w X/\OS ao 102 w X 1003 j7 gC jZ) ?_ ?_
 ·refine rPe T hS [] [(7,I 0)] fun a hS=>?_
  refine aN ?_
  obtain ⟨I1,μ1,cy,hm⟩:=hm
  refine cw (σ:=(List ab) × Int) (fun s a w=>∃ Z X i7 i6,I1 s.1 s.2/\St Tryz.f18.ntmps ⟨[(0,Sl a1 l_ c1),(6,Sl i7 s.1 i6),(7,I s.2)],[]⟩ Z a w X/\Old w0 X0 w X/\RS aO w X a1 l_ c1/\OS ao 102 w X 1003 i7 s.1 i6) (fun s=>μ1 s.1 s.2) (⟨[],0⟩) ?_ ?_
  ·exact ⟨Z,_,none,0,cy,hS.sl _,hO,h1,(OS.nil _ _ _ _ _)⟩
  rintro ⟨cM,aY⟩ a Nz ⟨Z,PR,i7,i6,hI,hS,hO,h111,h115⟩
  replace hm:=hm cM aY hI
  clear hI cy
  refine bd ?_
  refine rPe T hS [] [(21,B (decide (aY < (lN l_))))] fun a hS=>?_
  refine aF hS (b:=decide (aY < (lN l_))) kr (fun hb=>?_) fun hb=>?_
  ·replace hm:=hm.1 hb
   refine aL ?_
   refine b5 (fun a w=>∃ (Z:Nat->Nat) (X:Nat->Nat) (je:List ab) (qP:Option Addr) (qH:Nat),VC18_J2 I1 μ1 cM aY je/\St Tryz.f18.ntmps ⟨[(0,Sl a1 l_ c1),(6,Sl qP je qH),(7,I aY)],[]⟩ Z a w X/\Old w0 X0 w X/\RS aO w X a1 l_ c1/\OS ao 102 w X 1003 qP je qH) ?_ ?_
   ·refine aN ?_
    refine bd ?_
    refine bn ?_
    refine oPe T hS 2 [21] [(24,Sl a1 l_ c1),(25,I aY)] fun a hS=>?_
    obtain ⟨hq,hm⟩:=hm
    refine op1 (index (e:=61) (k:=.i64) T hS kr kr kr kr h111 kr kr hq.1 hq.2 ?_)
    intro B6 a h123 hS
    refine op1 (fc (off:=0) (fsz:=1) (ft:=3) (TF:=tI) (y:=(gi l_ aY).bh) T hS kr kr kr h123 kr kr kr (fun cs h=>lk h) ?_)
    intro Gb a h125 hS
    refine op1 (eC T hS kr kr kr h125 rfl kr ?_)
    intro v126 a hv hS
    cases hv
    refine ePe T hS [24,25,26,27,28] [(29,B (((gi l_ aY).bh) != 1))] fun a hS=>?_
    refine aF hS (b:=(((gi l_ aY).bh) != 1)) kr (fun hb=>?_) fun hb=>?_
    ·replace hm:=hm.1 hb
     refine cl (by rfl) ?_
     exact ⟨Z,_,cM,i7,i6,hm,hS.sl _,hO,h111,h115⟩
    replace hm:=hm.2 hb
    refine aL ?_
    refine dq [] mixed hS ?_
    intro si zY hS hE hD hH
    replace hO:=hO.m2 hE
    replace h111:=h111.m1 hE
    replace h115:=h115.m2 hE
    refine tke T [0,1,5,6,10] [] hS hH #[true,true,false,false,false,true,true,false,false,false,true,false,false,false] 9 [] [(30,Sl a1 l_ c1),(31,I aY),(35,Sl a1 l_ c1),(36,I aY),(40,I aY)] fun a hS=>?_
    obtain ⟨hq,hm⟩:=hm
    refine c6 (e:=61) (k:=.i64) T 2 hS kr kr kr (by rfl) kr hH kr kr h111 kr kr hq.1 hq.2 ?_
    intro L4 a h130 hS
    have Bo:=h130.here
    refine dh (off:=1) (fsz:=1) (ft:=3) (TF:=tI) (y:=(gi l_ aY).ah) 3 T hS kr kr kr (by rfl) kr hH kr h130 kr kr kr (fun cs h=>gV h) ?_
    intro IL a h132 fv hS
    have uO:=Bo
    rw [← fv] at uO
    clear fv
    refine dF T 4 hS kr kr kr (by rfl) kr hH kr h132 uO rfl kr ?_
    intro v133 a hv hS
    cases hv
    obtain ⟨hq,hm⟩:=hm
    refine c6 (e:=61) (k:=.i64) T 7 hS kr kr kr (by rfl) kr hH kr kr h111 kr kr hq.1 hq.2 ?_
    intro QK a h135 hS
    have HI:=h135.here
    refine dh (off:=2) (fsz:=1) (ft:=3) (TF:=tI) (y:=(gi l_ aY).N) 8 T hS kr kr kr (by rfl) kr hH kr h135 kr kr kr (fun cs h=>n4 h) ?_
    intro Ga a h137 fv hS
    have yc:=HI
    rw [← fv] at yc
    clear fv
    refine dF T 9 hS kr kr kr (by rfl) kr hH kr h137 yc rfl kr ?_
    intro v138 a hv hS
    cases hv
    refine tke T [11] [] hS hH #[true,true,true,true,true,true,true,true,true,true,true,true,false,false] 2 [30,31,35,36,40,32,33,34,37,38,39] [(41,V (.agg #[.int .i64 ((gi l_ aY).ah),.int .i64 ((gi l_ aY).N),.int .i64 aY,.int .i64 (-1),.int .i64 (-1)]))] fun a hS=>?_
    replace hS:=hS.sl ⟨[(0,Sl a1 l_ c1),(6,Sl i7 cM i6),(7,I aY),(41,V (.agg #[.int .i64 ((gi l_ aY).ah),.int .i64 ((gi l_ aY).N),.int .i64 aY,.int .i64 (-1),.int .i64 (-1)]))],[]⟩
    refine only 12 kr (by rfl) (Ll T hS kr kr kr (sy':=⟨[(8,Pt 9 0),(0,Sl a1 l_ c1),(6,Sl i7 cM i6),(7,I aY),(41,V (.agg #[.int .i64 ((gi l_ aY).ah),.int .i64 ((gi l_ aY).N),.int .i64 aY,.int .i64 (-1),.int .i64 (-1)]))],[(9,(102,[I 0,I 0,I 0,I 0,I 0]))]⟩) kr ?_)
    intro Z a sg vy hS hE DP
    replace hO:=hO.m2 hE
    replace hD:=hD.ev hE rfl
    replace h111:=h111.m1 hE
    replace h115:=h115.m2 hE
    replace h130:=h130.m1 hE
    replace h132:=h132.m1 hE
    replace h135:=h135.m1 hE
    replace h137:=h137.m1 hE
    replace hS:=hS.sl ⟨[(0,Sl a1 l_ c1),(6,Sl i7 cM i6),(7,I aY),(41,V (.agg #[.int .i64 ((gi l_ aY).ah),.int .i64 ((gi l_ aY).N),.int .i64 aY,.int .i64 (-1),.int .i64 (-1)])),(8,Pt 9 0)],[(9,(102,[I 0,I 0,I 0,I 0,I 0]))]⟩
    refine cV ((bI.of hS (bks:=[]) kr hD).rho DP kr) ?_
    intro hH
    replace hS:=hS.sl ⟨[(0,Sl a1 l_ c1),(6,Sl i7 cM i6),(7,I aY),(41,V (.agg #[.int .i64 ((gi l_ aY).ah),.int .i64 ((gi l_ aY).N),.int .i64 aY,.int .i64 (-1),.int .i64 (-1)])),(8,Pt 9 0)],[(9,(102,[I 0,I 0,I 0,I 0,I 0]))]⟩
    refine only 13 kr (by rfl) (An T hS kr kr (sy':=⟨[(0,Sl a1 l_ c1),(6,Sl i7 cM i6),(7,I aY),(41,V (.agg #[.int .i64 ((gi l_ aY).ah),.int .i64 ((gi l_ aY).N),.int .i64 aY,.int .i64 (-1),.int .i64 (-1)])),(8,Pt 9 0)],[(9,(102,[I ((gi l_ aY).ah),I ((gi l_ aY).N),I aY,I (-1),I (-1)])),(9,(102,[I 0,I 0,I 0,I 0,I 0]))]⟩) kr ?_)
    intro a qY ra hS hE
    replace hO:=hO.m2 hE
    replace hD:=hD.ev hE rfl
    replace h111:=h111.m1 hE
    replace h115:=h115.m2 hE
    replace h130:=h130.m1 hE
    replace h132:=h132.m1 hE
    replace h135:=h135.m1 hE
    replace h137:=h137.m1 hE
    replace hS:=hS.sl ⟨[(0,Sl a1 l_ c1),(6,Sl i7 cM i6),(7,I aY),(41,V (.agg #[.int .i64 ((gi l_ aY).ah),.int .i64 ((gi l_ aY).N),.int .i64 aY,.int .i64 (-1),.int .i64 (-1)])),(8,Pt 9 0)],[(9,(102,[I ((gi l_ aY).ah),I ((gi l_ aY).N),I aY,I (-1),I (-1)]))]⟩
    refine cV ((bI.of hS (bks:=[]) kr hD).rho DP kr) ?_
    intro hH
    refine aV kr ?_
    replace hS:=hS.sle [41] []
    refine b5 (fun a w=>∃ (Z:Nat->Nat) (X:Nat->Nat) (se:List ab) (ls:Int) (nj:Int) (ge:Int) (fC:Int) (tN:Int) (tD:Option Addr) (tv:Nat),VC18_J3 I1 μ1 cM aY se ls nj ge fC tN/\St Tryz.f18.ntmps ⟨[(0,Sl a1 l_ c1),(6,Sl tD se tv),(7,I aY),(8,Pt 9 0)],[(9,(102,[I ls,I nj,I ge,I fC,I tN]))]⟩ Z a w X/\Old w0 X0 w X/\RS aO w X a1 l_ c1/\OS ao 102 w X 1003 tD se tv) ?_ ?_
    ·refine rPe T hS [] [(9,I (wR (aY+1)))] fun a hS=>?_
     refine aN ?_
     obtain ⟨I2,μ2,cy,hm⟩:=hm
     refine cw (σ:=(List ab) × Int × Int × Int × Int × Int × Int) (fun s a w=>∃ Z X qN qF,I2 s.1 s.2.1 s.2.2.1 s.2.2.2.1 s.2.2.2.2.1 s.2.2.2.2.2.1 s.2.2.2.2.2.2/\St Tryz.f18.ntmps ⟨[(0,Sl a1 l_ c1),(6,Sl qN s.1 qF),(7,I aY),(8,Pt 9 0),(9,I s.2.1)],[(9,(102,[I s.2.2.1,I s.2.2.2.1,I s.2.2.2.2.1,I s.2.2.2.2.2.1,I s.2.2.2.2.2.2]))]⟩ Z a w X/\Old w0 X0 w X/\RS aO w X a1 l_ c1/\OS ao 102 w X 1003 qN s.1 qF) (fun s=>μ2 s.1 s.2.1 s.2.2.1 s.2.2.2.1 s.2.2.2.2.1 s.2.2.2.2.2.1 s.2.2.2.2.2.2) (⟨cM,wR (aY+1),(gi l_ aY).ah,(gi l_ aY).N,aY,(-1),(-1)⟩) ?_ ?_
     ·exact ⟨Z,_,i7,i6,cy,hS.sl _,hO,h111,h115⟩
     rintro ⟨vP,kw,ma,iU,vO,yv,z9⟩ a NC ⟨Z,LE,qN,qF,hI,hS,hO,h163,h167⟩
     replace hm:=hm vP kw ma iU vO yv z9 hI
     clear hI cy
     refine bd ?_
     refine rPe T hS [] [(52,B ((decide (kw < (lN l_))) && (decide (yv < 0))))] (sp:=[48]) fun a hS=>?_
     refine aF hS (b:=((decide (kw < (lN l_))) && (decide (yv < 0)))) kr (fun hb=>?_) fun hb=>?_
     ·replace hm:=hm.1 hb
      refine aL ?_
      refine b5 (fun a w=>∃ (Z:Nat->Nat) (X:Nat->Nat) (kV:List ab) (fJ:Int) (Cl:Int) (nb:Option Addr) (m7:Nat),VC18_J4 I2 μ2 vP kw ma iU vO yv z9 kV fJ Cl/\St Tryz.f18.ntmps ⟨[(0,Sl a1 l_ c1),(6,Sl nb kV m7),(7,I aY),(8,Pt 9 0),(9,I kw)],[(9,(102,[I ma,I iU,I vO,I fJ,I Cl]))]⟩ Z a w X/\Old w0 X0 w X/\RS aO w X a1 l_ c1/\OS ao 102 w X 1003 nb kV m7) ?_ ?_
      ·refine aN ?_
       refine dq [9] mixed hS ?_
       intro Jl Iv hS hE hD hH
       replace hO:=hO.m2 hE
       replace h163:=h163.m1 hE
       replace h167:=h167.m2 hE
       refine tke T [0,1,5,6] [9] hS hH #[true,true,false,false,false,true,true,false,false,false,false] 7 [] [(55,Sl a1 l_ c1),(56,I kw),(60,Sl a1 l_ c1),(61,I aY)] fun a hS=>?_
       obtain ⟨hq,hm⟩:=hm
       refine c6 (e:=61) (k:=.i64) T 2 hS kr kr kr (by rfl) kr hH kr kr h163 kr kr hq.1 hq.2 ?_
       intro Qw a h184 hS
       have HA:=h184.here
       refine dh (off:=1) (fsz:=1) (ft:=3) (TF:=tI) (y:=(gi l_ kw).ah) 3 T hS kr kr kr (by rfl) kr hH kr h184 kr kr kr (fun cs h=>gV h) ?_
       intro Qu a h186 fv hS
       have Ek:=HA
       rw [← fv] at Ek
       clear fv
       refine dF T 4 hS kr kr kr (by rfl) kr hH kr h186 Ek rfl kr ?_
       intro v187 a hv hS
       cases hv
       obtain ⟨hq,hm⟩:=hm
       refine c6 (e:=61) (k:=.i64) T 7 hS kr kr kr (by rfl) kr hH kr kr h163 kr kr hq.1 hq.2 ?_
       intro Qr a h189 hS
       have Hz:=h189.here
       refine dh (off:=1) (fsz:=1) (ft:=3) (TF:=tI) (y:=(gi l_ aY).ah) 8 T hS kr kr kr (by rfl) kr hH kr h189 kr kr kr (fun cs h=>gV h) ?_
       intro Qp a h191 fv hS
       have Ej:=Hz
       rw [← fv] at Ej
       clear fv
       refine dF T 9 hS kr kr kr (by rfl) kr hH kr h191 Ej rfl kr ?_
       intro v192 a hv hS
       cases hv
       refine tke T [10] [9] hS hH (tts 11) 0 [55,56,60,61,57,58,59,62,63,64] [(65,B (((gi l_ kw).ah) == ((gi l_ aY).ah)))] fun a hS=>?_
       refine aV kr ?_
       replace hS:=hS.sle [] []
       refine aF hS (b:=(((gi l_ kw).ah) == ((gi l_ aY).ah))) kr (fun hb=>?_) fun hb=>?_
       ·replace hm:=hm.1 hb
        refine rM T hS ⟨[(0,Sl a1 l_ c1),(6,Sl qN vP qF),(7,I aY),(8,Pt 9 0),(9,I kw)],[(9,(102,[I ma,I iU,I vO,I kw,I z9]))]⟩ fun Z a Jf LH hS hE hr=>?_
        replace hO:=hO.m2 hE
        replace h163:=h163.m1 hE
        replace h167:=h167.m2 hE
        clear hE hr
        refine region ?_
        refine oPe T hS 2 [] [(68,Sl a1 l_ c1),(69,I kw)] fun a hS=>?_
        obtain ⟨hq,hm⟩:=hm
        refine op1 (index (e:=61) (k:=.i64) T hS kr kr kr kr h163 kr kr hq.1 hq.2 ?_)
        intro Qn a h194 hS
        refine op1 (fc (off:=2) (fsz:=1) (ft:=3) (TF:=tI) (y:=(gi l_ kw).N) T hS kr kr kr h194 kr kr kr (fun cs h=>n4 h) ?_)
        intro Ql a h196 hS
        refine op1 (eC T hS kr kr kr h196 rfl kr ?_)
        intro v197 a hv hS
        cases hv
        refine eM T hS ⟨[(0,Sl a1 l_ c1),(6,Sl qN vP qF),(7,I aY),(8,Pt 9 0),(9,I kw)],[(9,(102,[I ma,I iU,I vO,I kw,I ((gi l_ kw).N)]))]⟩ fun Z a Gz Is hS hE hr=>?_
        replace hO:=hO.m2 hE
        replace h163:=h163.m1 hE
        replace h167:=h167.m2 hE
        clear hE hr
        exact ⟨Z,_,vP,kw,(gi l_ kw).N,qN,qF,hm,hS.sl _,hO,h163,h167⟩
       replace hm:=hm.2 hb
       refine aL ?_
       exact ⟨Z,_,vP,yv,z9,qN,qF,hm,hS.sl _,hO,h163,h167⟩
      rintro a Gy ⟨Z,LG,kV,fJ,Cl,nb,m7,hm,hS,hO,h174,h178⟩
      unfold VC18_J4 at hm
      refine region (ePe T hS [] [(9,I (wR (kw+1)))] fun a hS=>?_)
      exact ⟨⟨kV,wR (kw+1),ma,iU,vO,fJ,Cl⟩,⟨Z,_,nb,m7,hm.1,hS.sl _,hO,h174,h178⟩,hm.2⟩
     replace hm:=hm.2 hb
     refine cl (by rfl) ?_
     exact ⟨Z,_,vP,ma,iU,vO,yv,z9,qN,qF,hm,hS.sl _,hO,h163,h167⟩
    rintro a Jb ⟨Z,LC,se,ls,nj,ge,fC,tN,tD,tv,hm,hS,hO,h144,h148⟩
    unfold VC18_J3 at hm
    refine region ?_
    refine oP T hS 2 ⟨[(0,Sl a1 l_ c1),(6,Sl tD se tv),(7,I aY),(74,Sl tD se tv),(75,V (.agg #[.int .i64 ls,.int .i64 nj,.int .i64 ge,.int .i64 fC,.int .i64 tN]))],[]⟩ fun a hS=>?_
    refine op1 (lit (E:=102) (col:=0) (T:=ao) (vals:=[.agg #[.int .i64 ls,.int .i64 nj,.int .i64 ge,.int .i64 fC,.int .i64 tN]]) (ys:=[(⟨ls,nj,ge,fC,tN⟩:ab)]) T hS kr kr kr kr (by exact ⟨rfl,trivial⟩) rfl kr kr kr kr ?_)
    intro b154 a EE BW hE h157 hN hS
    clear hN
    replace hO:=hO.m2 hE
    replace h144:=h144.m1 hE
    replace h148:=h148.m2 hE
    replace h157:=h157.rs0
    obtain ⟨hq,hm⟩:=hm
    obtain ⟨news,hN⟩:=h157.src
    refine op1 (append (E:=102) (T:=ao) (col:=1003) (xs:=se) T hS kr kr kr kr h148 hN kr kr kr kr hq ?_)
    intro Ip H9 a Cs F3 hE h160 hS
    clear hq hN
    clear h148
    replace hO:=hO.m2 hE
    replace h144:=h144.m1 hE
    replace h157:=h157.m1 hE
    refine ePe T hS [75,76,77] [(6,Sl Ip (se++[(⟨ls,nj,ge,fC,tN⟩:ab)]) H9)] fun a hS=>?_
    exact ⟨Z,_,se++[(⟨ls,nj,ge,fC,tN⟩:ab)],Ip,H9,hm,hS.sl _,hO,h144,h160⟩
   rintro a Gx ⟨Z,LA,je,qP,qH,hm,hS,hO,h117,h121⟩
   unfold VC18_J2 at hm
   refine region (ePe T hS [] [(7,I (wR (aY+1)))] fun a hS=>?_)
   exact ⟨⟨je,wR (aY+1)⟩,⟨Z,_,qP,qH,hm.1,hS.sl _,hO,h117,h121⟩,hm.2⟩
  replace hm:=hm.2 hb
  refine cl (by rfl) ?_
  exact ⟨Z,_,cM,i7,i6,hm,hS.sl _,hO,h115⟩
 rintro a Nx ⟨Z,PP,gC,j7,jZ,hm,hS,hO,h108⟩
 unfold VC18_J1 at hm
 refine rPe T hS [6] [(2,Sl j7 gC jZ),(3,I 0)] fun a hS=>?_
 refine aZ ?_
 obtain ⟨B2,hE,hF⟩:=h108.freeze (by decide)
 replace hS:=hS.ev hE (cN kr)
 replace hO:=hO.m2 hE
 have h110:=hF; clear hE hF
 exact fin T hS hO (fun c=>c) rfl (r:=[.slice j7 gC.length jZ,.int .i64 0]) kr (fun X' hM hC=>⟨(gC,0),hm,j7,jZ,rfl,h110.m0 hM⟩)
theorem C18 (Fc:S50) (v:∀ (l_:List au),VC18 l_ (fun r=>r=gh l_)):S18:=by
 intro w X l_ a1 c1   h1
 refine (W18 Fc w X l_ a1 c1   _ (v l_) h1).mono ?_
 rintro _ _ _ _ ⟨r,rfl,h⟩
 exact h
theorem W25 (w0) (X0) (a_:List Int) (b_:List Int) (a1) (c1) (a2) (c2) (Q:Bool->Prop) (hm:VC25 a_ b_ Q) (h1:RS tI w0 X0 a1 a_ c1) (h2:RS tI w0 X0 a2 b_ c2) :
  Ret Tryz.prog 25 #[.slice a1 a_.length c1,.slice a2 b_.length c2] aJ w0 X0 (fun w X' v=>∃ r,Q r/\v=.bool r):=by
 unfold VC25 at hm
 replace hm:=hm (h1.sm kr)
 replace hm:=hm (h2.sm kr)
 refine enter Tryz.func25 rfl (vals:=[.slice a1 a_.length c1,.slice a2 b_.length c2]) kr ?_
 intro Z a hS hO hM
 replace h1:=h1.m0 hM
 replace h2:=h2.m0 hM
 refine rPe T hS [] [] fun a hS=>?_
 refine bd ?_
 refine rPe T hS [] [(10,B ((lN a_) != (lN b_)))] fun a hS=>?_
 refine aF hS (b:=((lN a_) != (lN b_))) kr (fun hb=>?_) fun hb=>?_
 ·replace hm:=hm.1 hb
  refine rPe T hS [0,1,10] [(4,B false)] fun a hS=>?_
  refine aZ ?_
  exact fin T hS hO (fun c=>c) rfl (r:=[.bool false]) kr (fun X' hM hC=>⟨false,hm,rfl⟩)
 replace hm:=hm.2 hb
 refine aL ?_
 refine b5 (fun a w=>∃ Z X,VC25_J1 Q/\St Tryz.f25.ntmps ⟨[],[]⟩ Z a w X/\Old w0 X0 w X) ?_ ?_
 ·refine rPe T hS [10] [(5,I 0)] fun a hS=>?_
  refine aN ?_
  obtain ⟨I1,μ1,cy,hm⟩:=hm
  refine cw (σ:=Int) (fun s a w=>∃ Z X,I1 s/\St Tryz.f25.ntmps ⟨[(0,Sl a1 a_ c1),(1,Sl a2 b_ c2),(5,I s)],[]⟩ Z a w X/\Old w0 X0 w X/\RS tI w X a1 a_ c1/\RS tI w X a2 b_ c2) (fun s=>μ1 s) (0) ?_ ?_
  ·exact ⟨Z,_,cy,hS.sl _,hO,h1,h2⟩
  rintro be a vS ⟨Z,tG,hI,hS,hO,h101,h102⟩
  replace hm:=hm be hI
  clear hI cy
  refine bd ?_
  refine rPe T hS [] [(14,B (decide (be < (lN a_))))] fun a hS=>?_
  refine aF hS (b:=decide (be < (lN a_))) kr (fun hb=>?_) fun hb=>?_
  ·replace hm:=hm.1 hb
   refine aL (bd ?_)
   refine aN ?_
   refine dq [] mixed hS ?_
   intro yG oH hS hE hD hH
   replace hO:=hO.m2 hE
   replace h101:=h101.m1 hE
   replace h102:=h102.m1 hE
   refine tke T [0,1,4,5] [] hS hH #[true,true,false,false,true,true,false,false,false] 5 [] [(17,Sl a1 a_ c1),(18,I be),(21,Sl a2 b_ c2),(22,I be)] fun a hS=>?_
   obtain ⟨hq,hm⟩:=hm
   refine c6 (e:=3) (k:=.i64) T 2 hS kr kr kr (by rfl) kr hH kr kr h101 kr kr hq.1 hq.2 ?_
   intro IM a h107 hS
   have Bq:=h107.here
   refine dF T 3 hS kr kr kr (by rfl) kr hH kr h107 Bq rfl kr ?_
   intro v108 a hv hS
   cases hv
   obtain ⟨hq,hm⟩:=hm
   refine c6 (e:=3) (k:=.i64) T 6 hS kr kr kr (by rfl) kr hH kr kr h102 kr kr hq.1 hq.2 ?_
   intro w8 a h110 hS
   have kM:=h110.here
   refine dF T 7 hS kr kr kr (by rfl) kr hH kr h110 kM rfl kr ?_
   intro v111 a hv hS
   cases hv
   refine tke T [8] [] hS hH (tts 9) 0 [17,18,21,22,19,20,23,24] [(25,B ((gi a_ be) != (gi b_ be)))] fun a hS=>?_
   refine aV kr ?_
   replace hS:=hS.sle [] []
   refine aF hS (b:=((gi a_ be) != (gi b_ be))) kr (fun hb=>?_) fun hb=>?_
   ·replace hm:=hm.1 hb
    refine rPe T hS [0,1,5,25] [(4,B false)] fun a hS=>?_
    refine aZ ?_
    exact fin T hS hO (fun c=>c) rfl (r:=[.bool false]) kr (fun X' hM hC=>⟨false,hm,rfl⟩)
   replace hm:=hm.2 hb
   refine aL ?_
   refine region (ePe T hS [25] [(5,I (wR (be+1)))] fun a hS=>?_)
   exact ⟨wR (be+1),⟨Z,_,hm.1,hS.sl _,hO,h101,h102⟩,hm.2⟩
  replace hm:=hm.2 hb
  refine cl (by rfl) ?_
  exact ⟨Z,_,hm,hS.sl _,hO⟩
 rintro a o5 ⟨Z,w6,hm,hS,hO⟩
 unfold VC25_J1 at hm
 refine rPe T hS [] [(4,B true)] fun a hS=>?_
 refine aZ ?_
 exact fin T hS hO (fun c=>c) rfl (r:=[.bool true]) kr (fun X' hM hC=>⟨true,hm,rfl⟩)
theorem C25 (v:∀ (a_:List Int) (b_:List Int),VC25 a_ b_ (fun r=>r=eK a_ b_)):S25:=by
 intro w X a_ b_ a1 c1 a2 c2   h1 h2
 refine (W25 w X a_ b_ a1 c1 a2 c2   _ (v a_ b_) h1 h2).mono ?_
 rintro _ _ _ _ ⟨r,rfl,h⟩
 exact h
theorem W92 (w0) (X0) (s_:List Int) (v_:Int) (a1) (c1) (Q:Int->Prop) (hm:VC92 s_ v_ Q) (h1:RS tI w0 X0 a1 s_ c1) :
  Ret Tryz.prog 92 #[.slice a1 s_.length c1,.int .i64 v_] aJ w0 X0 (fun w X' v=>∃ r,Q r/\v=.int .i64 r):=by
 unfold VC92 at hm
 replace hm:=hm (h1.sm kr)
 refine enter Tryz.func92 rfl (vals:=[.slice a1 s_.length c1,.int .i64 v_]) kr ?_
 intro Z a hS hO hM
 replace h1:=h1.m0 hM
 refine rPe T hS [] [] fun a hS=>?_
 refine b5 (fun a w=>∃ Z X,VC92_J1 Q/\St Tryz.f92.ntmps ⟨[],[]⟩ Z a w X/\Old w0 X0 w X) ?_ ?_
 ·refine rPe T hS [] [(7,I (lN s_)),(8,I 0)] fun a hS=>?_
  refine aN ?_
  obtain ⟨I1,μ1,cy,hm⟩:=hm
  refine cw (σ:=Int) (fun s a w=>∃ Z X,I1 s/\St Tryz.f92.ntmps ⟨[(0,Sl a1 s_ c1),(1,I v_),(7,I (lN s_)),(8,I s)],[]⟩ Z a w X/\Old w0 X0 w X/\RS tI w X a1 s_ c1) (fun s=>μ1 s) (0) ?_ ?_
  ·exact ⟨Z,_,cy,hS.sl _,hO,h1⟩
  rintro br a pu ⟨Z,lB,hI,hS,hO,h101⟩
  replace hm:=hm br hI
  clear hI cy
  refine rPe T hS [] [(9,B (decide (br < (lN s_))))] fun a hS=>?_
  refine bd ?_
  refine aF hS (b:=decide (br < (lN s_))) kr (fun hb=>?_) fun hb=>?_
  ·replace hm:=hm.1 hb
   refine aL (bd ?_)
   refine aN ?_
   refine rPe T hS [9] [(5,I br)] fun a hS=>?_
   refine bn ?_
   refine oPe T hS 3 [] [(11,I v_),(12,Sl a1 s_ c1),(13,I br)] fun a hS=>?_
   obtain ⟨hq,hm⟩:=hm
   refine op1 (index (e:=3) (k:=.i64) T hS kr kr kr kr h101 kr kr hq.1 hq.2 ?_)
   intro tJ a h104 hS
   refine op1 (eC T hS kr kr kr h104 rfl kr ?_)
   intro v105 a hv hS
   cases hv
   refine ePe T hS [11,12,13,14,15] [(16,B (v_ == (gi s_ br)))] fun a hS=>?_
   refine aF hS (b:=(v_ == (gi s_ br))) kr (fun hb=>?_) fun hb=>?_
   ·replace hm:=hm.1 hb
    refine rPe T hS [0,1,5,7,8,16] [(4,I br)] fun a hS=>?_
    refine aZ ?_
    exact fin T hS hO (fun c=>c) rfl (r:=[.int .i64 br]) kr (fun X' hM hC=>⟨br,hm,rfl⟩)
   replace hm:=hm.2 hb
   refine aL ?_
   refine region (ePe T hS [5,16] [(8,I (wR (br+1)))] fun a hS=>?_)
   exact ⟨wR (br+1),⟨Z,_,hm.1,hS.sl _,hO,h101⟩,hm.2⟩
  replace hm:=hm.2 hb
  refine cl (by rfl) ?_
  exact ⟨Z,_,hm,hS.sl _,hO⟩
 rintro a pm ⟨Z,oG,hm,hS,hO⟩
 unfold VC92_J1 at hm
 refine rPe T hS [] [(4,I (-1))] fun a hS=>?_
 refine aZ ?_
 exact fin T hS hO (fun c=>c) rfl (r:=[.int .i64 (-1)]) kr (fun X' hM hC=>⟨(-1),hm,rfl⟩)
theorem C92 (v:∀ (s_:List Int) (v_:Int),VC92 s_ v_ (fun r=>r=dM s_ v_)):S92:=by
 intro w X s_ v_ a1 c1   h1
 refine (W92 w X s_ v_ a1 c1   _ (v s_ v_) h1).mono ?_
 rintro _ _ _ _ ⟨r,rfl,h⟩
 exact h
theorem W77 (JO:S92) (w0) (X0) (s_:List Int) (v_:Int) (a1) (c1) (Q:Bool->Prop) (hm:VC77 s_ v_ Q) (h1:RS tI w0 X0 a1 s_ c1) :
  Ret Tryz.prog 77 #[.slice a1 s_.length c1,.int .i64 v_] aJ w0 X0 (fun w X' v=>∃ r,Q r/\v=.bool r):=by
 unfold VC77 at hm
 replace hm:=hm (h1.sm kr)
 refine enter Tryz.func77 rfl (vals:=[.slice a1 s_.length c1,.int .i64 v_]) kr ?_
 intro Z a hS hO hM
 replace h1:=h1.m0 hM
 refine rPe T hS [] [] fun a hS=>?_
 refine bn ?_
 refine oPe T hS 2 [0,1] [(5,Sl a1 s_ c1),(6,I v_)] fun a hS=>?_
 refine op1 (call hS kr kr hb92 kr (fun _ _=>rfl) (JO _ _ s_ v_ a1 c1 h1) ?_)
 intro v101 a fh fo hE hp hS
 replace hO:=hO.m2 hE
 replace h1:=h1.m1 hE
 obtain ⟨av,hr⟩:∃ r,dM s_ v_=r:=⟨_,rfl⟩
 replace hm:=hm av hr
 rw [hr] at hp
 clear hr
 subst hp
 refine ePe T hS [5,6,7] [(4,B (decide (av≥0)))] fun a hS=>?_
 refine aZ ?_
 exact fin T hS hO (fun c=>c) rfl (r:=[.bool (decide (av≥0))]) kr (fun X' hM hC=>⟨(decide (av≥0)),hm,rfl⟩)
theorem C77 (JO:S92) (v:∀ (s_:List Int) (v_:Int),VC77 s_ v_ (fun r=>r=cn s_ v_)):S77:=by
 intro w X s_ v_ a1 c1   h1
 refine (W77 JO w X s_ v_ a1 c1   _ (v s_ v_) h1).mono ?_
 rintro _ _ _ _ ⟨r,rfl,h⟩
 exact h
theorem W49 (w0) (X0) (s_:List a9) (a1) (c1) (Q:(List a9)->Prop) (hm:VC49 s_ Q) (h1:RS ay w0 X0 a1 s_ c1) :
  Ret Tryz.prog 49 #[.slice a1 s_.length c1] aJ w0 X0 (fun w X' v=>∃ r,Q r/\∃ cB cA,v=.slice cB r.length cA/\RS ay w X' cB r cA):=by
 unfold VC49 at hm
 replace hm:=hm (h1.sm kr)
 refine enter Tryz.func49 rfl (vals:=[.slice a1 s_.length c1]) kr ?_
 intro Z a hS hO hM
 replace h1:=h1.m0 hM
 refine rPe T hS [] [] fun a hS=>?_
 refine bd ?_
 refine bn ?_
 refine oPe T hS 1 [] [(3,Sl a1 s_ c1)] fun a hS=>?_
 obtain ⟨b101,hb102⟩:∃ q:Bool,a1.isNone=q:=⟨_,rfl⟩
 replace hm:=hm b101 (h1.G2 hb102)
 refine op1 (Et (e:=107) (m:=s_.length) (c:=c1) hS kr kr kr kr Tryz.underlying46 hb102 ?_)
 intro a hS
 clear hb102
 refine g8 ?_
 refine aF hS (b:=b101) kr (fun hb=>?_) fun hb=>?_
 ·replace hm:=hm.1 hb
  refine rPe T hS [0,4] [(2,V (.slice none 0 0))] fun a hS=>?_
  refine aZ ?_
  exact fin T hS hO (fun c=>c) rfl (r:=[.slice none 0 0]) kr (fun X' hM hC=>⟨[],hm,none,0,rfl,RS.empty _ _ _⟩)
 replace hm:=hm.2 hb
 refine aL ?_
 refine bn ?_
 refine op1 (lit (E:=107) (col:=1003) (T:=ay) (vals:=[]) (ys:=([]:List a9)) T hS kr kr kr kr trivial rfl kr kr kr kr ?_)
 intro b103 a yG oH hE h106 hN hS
 clear hN
 replace hO:=hO.m2 hE
 replace h1:=h1.m1 hE
 refine oPe T hS 1 [0,4] [(6,Sl a1 s_ c1)] fun a hS=>?_
 obtain ⟨hq,hm⟩:=hm
 obtain ⟨news,hN⟩:=h1.src
 refine op1 (append (E:=107) (T:=ay) (col:=1003) (xs:=([]:List a9)) T hS kr kr kr kr h106 hN kr kr kr kr hq ?_)
 intro gu gt a pu oG hE h109 hS
 clear hq hN
 clear h106
 replace hO:=hO.m2 hE
 replace h1:=h1.m1 hE
 refine ePe T hS [6,7] [(2,Sl gu (([]:List a9)++s_) gt)] fun a hS=>?_
 refine aZ ?_
 obtain ⟨tG,hE,hF⟩:=h109.freeze (by decide)
 replace hS:=hS.ev hE (cN kr)
 replace hO:=hO.m2 hE
 have h113:=hF; clear hE hF
 exact fin T hS hO (fun c=>c) rfl (r:=[.slice gu (([]:List a9)++s_).length gt]) kr (fun X' hM hC=>⟨(([]:List a9)++s_),hm,gu,gt,rfl,h113.m0 hM⟩)
theorem C49 (v:∀ (s_:List a9),xH s_->VC49 s_ (fun r=>r=cS s_)):S49:=by
 intro w X s_ a1 c1   hp h1
 refine (W49 w X s_ a1 c1   _ (v s_ hp) h1).mono ?_
 rintro _ _ _ _ ⟨r,rfl,h⟩
 exact h
theorem W76 (w0) (X0) (p_:Int × Int) (n_:Int) (Q:Bool->Prop) (hm:VC76 p_ n_ Q) :
  Ret Tryz.prog 76 #[.agg #[.int .i64 p_.1,.int .i64 p_.2],.int .i64 n_] aJ w0 X0 (fun w X' v=>∃ r,Q r/\v=.bool r):=by
 unfold VC76 at hm
 refine enter Tryz.func76 rfl (vals:=[.agg #[.int .i64 p_.1,.int .i64 p_.2],.int .i64 n_]) kr ?_
 intro Z a hS hO hM
 refine rM T hS ⟨[(1,I n_),(2,Pt 3 0)],[(3,(131,[I p_.1,I p_.2]))]⟩ fun Z a n5 oI hS hE hr=>?_
 replace hO:=hO.m2 hE
 clear hE hr
 refine rP T hS ⟨[(4,B (((decide ((if p_.2 < p_.1 then p_.2 else p_.1)≥0)) && (decide ((if p_.2 > p_.1 then p_.2 else p_.1) < n_))) && (p_.1 != p_.2)))],[]⟩ (sp:=[11,20]) fun a hS=>?_
 refine aZ ?_
 exact fin T hS hO (fun c=>c) rfl (r:=[.bool (((decide ((if p_.2 < p_.1 then p_.2 else p_.1)≥0)) && (decide ((if p_.2 > p_.1 then p_.2 else p_.1) < n_))) && (p_.1 != p_.2))]) kr (fun X' hM hC=>⟨(((decide ((if p_.2 < p_.1 then p_.2 else p_.1)≥0)) && (decide ((if p_.2 > p_.1 then p_.2 else p_.1) < n_))) && (p_.1 != p_.2)),hm,rfl⟩)
theorem C76 (v:∀ (p_:Int × Int) (n_:Int),VC76 p_ n_ (fun r=>r=dI p_ n_)):S76:=by
 intro w X p_ n_    
 refine (W76 w X p_ n_    _ (v p_ n_)).mono ?_
 rintro _ _ _ _ ⟨r,rfl,h⟩
 exact h
theorem W75 (JX:S76) (E8:S77) (w0) (X0) (p_:Int × Int) (am:Int) (ap:Int) (aM:List Int) (a1) (c1) (b1) (i1) (b2) (i2) (b3) (i3) (Q:Bool->Prop) (hm:VC75 p_ am ap aM Q) (h1:RS tI w0 X0 a1 aM c1) (ff:Cell w0 X0 b1 i1 3 [.int .i64 am]) (gE:Cell w0 X0 b2 i2 3 [.int .i64 ap]) (lc:Cell w0 X0 b3 i3 43 [.slice a1 aM.length c1]) (hA:dH [i1,i2,i3]) :
  Ret Tryz.prog 75 #[.agg #[.int .i64 p_.1,.int .i64 p_.2],.pointer (some ⟨b1,0,none⟩),.pointer (some ⟨b2,0,none⟩),.pointer (some ⟨b3,0,none⟩)] (pR [i1,i2,i3]) w0 X0 (fun w X' v=>∃ r,Q r/\v=.bool r/\Cell w X' b1 i1 3 [.int .i64 am]/\Cell w X' b2 i2 3 [.int .i64 ap]/\Cell w X' b3 i3 43 [.slice a1 aM.length c1]):=by
 unfold VC75 at hm
 replace hm:=hm (h1.sm kr)
 refine fB Tryz.func75 rfl (dx (zAe0 i1 i2 i3)) (fun id=>(bif Nat.beq id 901 then b1 else (bif Nat.beq id 902 then b2 else (bif Nat.beq id 903 then b3 else 0)))) (args:=[V (.agg #[.int .i64 p_.1,.int .i64 p_.2]),Pt 901 0,Pt 902 0,Pt 903 0]) (bxs:=[(901,(3,[I am])),(902,(3,[I ap])),(903,(43,[Sl a1 aM c1]))]) kr rfl (bm.cons kr (ff.map (bK 0 hA.1 rfl)) (bm.cons kr (gE.map (bK 1 hA.1 rfl)) (bm.cons kr (lc.map (bK 2 hA.1 rfl)) bm.nil))) (fm (fun q hq=>(hA.2 q.1 (List.mem_map.2 ⟨q,hq,rfl⟩)).1)) ?_
 intro a hS hO hM
 have hP:Pin [(901,b1),(902,b2),(903,b3)] (fun id=>(bif Nat.beq id 901 then b1 else (bif Nat.beq id 902 then b2 else (bif Nat.beq id 903 then b3 else 0)))):=by intro q hq; simp at hq; rcases hq with rfl | rfl | rfl <;> rfl
 generalize (fun id=>(bif Nat.beq id 901 then b1 else (bif Nat.beq id 902 then b2 else (bif Nat.beq id 903 then b3 else 0))))=Z at hS hP
 clear ff gE lc
 replace h1:=h1.m0 hM
 refine rM T hS ⟨[(1,Pt 901 0),(2,Pt 902 0),(3,Pt 903 0),(4,Pt 5 0)],[(5,(131,[I p_.1,I p_.2])),(901,(3,[I am])),(902,(3,[I ap])),(903,(43,[Sl a1 aM c1]))]⟩ fun Z a pm rc hS hE hr=>?_
 replace hO:=hO.m2 hE
 replace h1:=h1.m1 hE
 replace hP:=hP.mv hr kr
 clear hE hr
 refine bn ?_
 refine oPe T hS 2 [1] [(6,V (.agg #[.int .i64 p_.1,.int .i64 p_.2])),(7,I am)] fun a hS=>?_
 refine op1 (call hS kr kr hb76 kr (fun _ _=>rfl) (JX _ _ (p_.1,p_.2) am) ?_)
 intro v101 a fh fo hE hp hS
 replace hO:=hO.m2 hE
 replace h1:=h1.m1 hE
 obtain ⟨av,hr⟩:∃ r,dI (p_.1,p_.2) am=r:=⟨_,rfl⟩
 replace hm:=hm av hr
 rw [hr] at hp
 clear hr
 subst hp
 refine oPe T hS 7 [2,6,7,8] [(15,B (av && (p_.2 == ap)))] (sp:=[9]) fun a hS=>?_
 rcases bft (av && (p_.2 == ap)) with hb | hb
 ·replace hS:=hS.lit (t:=15) kr hb
  replace hm:=hm.1 hb
  refine oP T hS 3 ⟨[(15,B true),(16,Sl a1 aM c1),(18,I p_.1)],[(901,(3,[I am])),(902,(3,[I ap])),(903,(43,[Sl a1 aM c1]))]⟩ fun a hS=>?_
  refine op1 (call hS kr kr hb77 kr (fun _ _=>rfl) (E8 _ _ aM p_.1 a1 c1 h1) ?_)
  intro v105 a nk ne hE hp hS
  replace hO:=hO.m2 hE
  replace h1:=h1.m1 hE
  obtain ⟨a8,hr⟩:∃ r,cn aM p_.1=r:=⟨_,rfl⟩
  replace hm:=hm a8 hr
  rw [hr] at hp
  clear hr
  subst hp
  refine ePe T hS [15,16,18,19] [(5,B (!a8))] fun a hS=>?_
  refine aZ ?_
  exact gF T hS hO (fun c h=>bS kr h) (fun c h=>bT (l:=(zAe0 i1 i2 i3)) h) (bN (zAe0 i1 i2 i3)) rfl (r:=[.bool (!a8)]) kr (fun X' hM hC=>⟨(!a8),hm,rfl,((hS.cell (id:=901) (t:=3) (cs:=[I am]) kr).out (f:=(bN (zAe0 i1 i2 i3))) hC kr kr (hP.at 0 rfl)),((hS.cell (id:=902) (t:=3) (cs:=[I ap]) kr).out (f:=(bN (zAe0 i1 i2 i3))) hC kr kr (hP.at 1 rfl)),((hS.cell (id:=903) (t:=43) (cs:=[Sl a1 aM c1]) kr).out (f:=(bN (zAe0 i1 i2 i3))) hC kr kr (hP.at 2 rfl))⟩)
 replace hS:=hS.lit (t:=15) kr hb
 replace hm:=hm.2 hb
 refine eP T hS ⟨[(5,B false)],[(901,(3,[I am])),(902,(3,[I ap])),(903,(43,[Sl a1 aM c1]))]⟩ fun a hS=>?_
 refine aZ ?_
 exact gF T hS hO (fun c h=>bS kr h) (fun c h=>bT (l:=(zAe0 i1 i2 i3)) h) (bN (zAe0 i1 i2 i3)) rfl (r:=[.bool false]) kr (fun X' hM hC=>⟨false,hm,rfl,((hS.cell (id:=901) (t:=3) (cs:=[I am]) kr).out (f:=(bN (zAe0 i1 i2 i3))) hC kr kr (hP.at 0 rfl)),((hS.cell (id:=902) (t:=3) (cs:=[I ap]) kr).out (f:=(bN (zAe0 i1 i2 i3))) hC kr kr (hP.at 1 rfl)),((hS.cell (id:=903) (t:=43) (cs:=[Sl a1 aM c1]) kr).out (f:=(bN (zAe0 i1 i2 i3))) hC kr kr (hP.at 2 rfl))⟩)
theorem C75 (JX:S76) (E8:S77) (v:∀ (p_:Int × Int) (am:Int) (ap:Int) (aM:List Int),VC75 p_ am ap aM (fun r=>r=b9 p_ am ap aM)):S75:=by
 intro w X p_ am ap aM a1 c1  b1 i1 b2 i2 b3 i3 h1 ff gE lc hA
 refine (W75 JX E8 w X p_ am ap aM a1 c1  b1 i1 b2 i2 b3 i3 _ (v p_ am ap aM) h1 ff gE lc hA).mono ?_
 rintro _ _ _ _ ⟨r,rfl,h⟩
 exact h
theorem W93_75 (JY:S75) (w0) (X0) (s_:List (Int × Int)) (am:Int) (ap:Int) (aM:List Int) (a1) (c1) (a2) (c2) (b1) (i1) (b2) (i2) (b3) (i3) (Q:Int->Prop) (hm:VC93_75 s_ am ap aM Q) (h1:RS tP2 w0 X0 a1 s_ c1) (h2:RS tI w0 X0 a2 aM c2) (ff:Cell w0 X0 b1 i1 3 [.int .i64 am]) (gE:Cell w0 X0 b2 i2 3 [.int .i64 ap]) (lc:Cell w0 X0 b3 i3 43 [.slice a2 aM.length c2]) (hA:dH [i1,i2,i3]) :
  Ret Tryz.prog 93 #[.slice a1 s_.length c1,.func (.func 75) #[] #[.pointer (some ⟨b1,0,none⟩),.pointer (some ⟨b2,0,none⟩),.pointer (some ⟨b3,0,none⟩)]] (pR [i1,i2,i3]) w0 X0 (fun w X' v=>∃ r,Q r/\v=.int .i64 r/\Cell w X' b1 i1 3 [.int .i64 am]/\Cell w X' b2 i2 3 [.int .i64 ap]/\Cell w X' b3 i3 43 [.slice a2 aM.length c2]):=by
 unfold VC93_75 at hm
 replace hm:=hm (h1.sm kr)
 replace hm:=hm (h2.sm kr)
 refine fB Tryz.func93 rfl (dx (zAe0 i1 i2 i3)) (fun id=>(bif Nat.beq id 901 then b1 else (bif Nat.beq id 902 then b2 else (bif Nat.beq id 903 then b3 else 0)))) (args:=[Sl a1 s_ c1,.f (.func 75) [] [.p 901 0,.p 902 0,.p 903 0]]) (bxs:=[(901,(3,[I am])),(902,(3,[I ap])),(903,(43,[Sl a2 aM c2]))]) kr rfl (bm.cons kr (ff.map (bK 0 hA.1 rfl)) (bm.cons kr (gE.map (bK 1 hA.1 rfl)) (bm.cons kr (lc.map (bK 2 hA.1 rfl)) bm.nil))) (fm (fun q hq=>(hA.2 q.1 (List.mem_map.2 ⟨q,hq,rfl⟩)).1)) ?_
 intro a hS hO hM
 have hP:Pin [(901,b1),(902,b2),(903,b3)] (fun id=>(bif Nat.beq id 901 then b1 else (bif Nat.beq id 902 then b2 else (bif Nat.beq id 903 then b3 else 0)))):=by intro q hq; simp at hq; rcases hq with rfl | rfl | rfl <;> rfl
 generalize (fun id=>(bif Nat.beq id 901 then b1 else (bif Nat.beq id 902 then b2 else (bif Nat.beq id 903 then b3 else 0))))=Z at hS hP
 clear ff gE lc
 replace h1:=h1.m0 hM
 replace h2:=h2.m0 hM
 refine rPe T hS [] [] fun a hS=>?_
 refine b5 (fun a w=>∃ Z X,VC93_75_J1 Q/\St Tryz.f93.ntmps ⟨[],[(901,(3,[I am])),(902,(3,[I ap])),(903,(43,[Sl a2 aM c2]))]⟩ Z a w X/\fU (dx (zAe0 i1 i2 i3)) w0 X0 w X/\Pin [(901,b1),(902,b2),(903,b3)] Z/\RS tI w X a2 aM c2) ?_ ?_
 ·refine rPe T hS [] [(7,I (lN s_)),(8,I 0)] fun a hS=>?_
  refine aN ?_
  obtain ⟨I1,μ1,cy,hm⟩:=hm
  refine cw (σ:=Int) (fun s a w=>∃ Z X,I1 s/\St Tryz.f93.ntmps ⟨[(0,Sl a1 s_ c1),(1,.f (.func 75) [] [.p 901 0,.p 902 0,.p 903 0]),(7,I (lN s_)),(8,I s)],[(901,(3,[I am])),(902,(3,[I ap])),(903,(43,[Sl a2 aM c2]))]⟩ Z a w X/\fU (dx (zAe0 i1 i2 i3)) w0 X0 w X/\Pin [(901,b1),(902,b2),(903,b3)] Z/\RS tP2 w X a1 s_ c1/\RS tI w X a2 aM c2) (fun s=>μ1 s) (0) ?_ ?_
  ·exact ⟨Z,_,cy,hS.sl _,hO,hP,h1,h2⟩
  rintro be a tS ⟨Z,DB,hI,hS,hO,hP,h102,h104⟩
  replace hm:=hm be hI
  clear hI cy
  refine rPe T hS [] [(9,B (decide (be < (lN s_))))] fun a hS=>?_
  refine bd ?_
  refine aF hS (b:=decide (be < (lN s_))) kr (fun hb=>?_) fun hb=>?_
  ·replace hm:=hm.1 hb
   refine aL (bd ?_)
   refine aN ?_
   refine rPe T hS [9] [(5,I be)] fun a hS=>?_
   refine bn ?_
   refine oPe T hS 3 [] [(11,.f (.func 75) [] [.p 901 0,.p 902 0,.p 903 0]),(12,Sl a1 s_ c1),(13,I be)] fun a hS=>?_
   obtain ⟨hq,hm⟩:=hm
   refine op1 (index (e:=131) (k:=.i64) T hS kr kr kr kr h102 kr kr hq.1 hq.2 ?_)
   intro w9 a h106 hS
   refine op1 (eB T hS kr kr kr h106 kr kr ?_)
   intro v107 a hv hS
   subst hv
   refine op1 (jI (fi:=[]) (cp:=[.p 901 0,.p 902 0,.p 903 0]) hS kr kr hb75 kr kr (JY _ _ (gi s_ be) am ap aM a2 c2 (Z 901) 901 (Z 902) 902 (Z 903) 903 h104 (hS.cell (id:=901) (t:=3) (cs:=[I am]) kr) (hS.cell (id:=902) (t:=3) (cs:=[I ap]) kr) (hS.cell (id:=903) (t:=43) (cs:=[Sl a2 aM c2]) kr) ⟨by decide,by decide⟩) ?_)
   intro v108 a pm rc hE hp hS
   replace hO:=hO.m2 hE
   replace h102:=h102.m1 hE
   replace h104:=h104.m1 hE
   replace h106:=h106.m1 hE
   obtain ⟨hp,Ed,Ec,Eb⟩:=hp
   obtain ⟨bA,hr⟩:∃ r,b9 (gi s_ be) am ap aM=r:=⟨_,rfl⟩
   replace hm:=hm bA hr
   rw [hr] at hp
   clear hr
   subst hp
   replace hS:=hS.cx (id:=901) (t:=3) (cs:=[I am]) kr Ed
   replace hS:=hS.cx (id:=902) (t:=3) (cs:=[I ap]) kr Ec
   replace hS:=hS.cx (id:=903) (t:=43) (cs:=[Sl a2 aM c2]) kr Eb
   clear Ed Ec Eb
   refine g8 ?_
   refine aF hS (b:=bA) kr (fun hb=>?_) fun hb=>?_
   ·replace hm:=hm.1 hb
    refine rPe T hS [0,1,5,7,8,16] [(4,I be)] fun a hS=>?_
    refine aZ ?_
    exact gF T hS hO (fun c h=>bS kr h) (fun c h=>bT (l:=(zAe0 i1 i2 i3)) h) (bN (zAe0 i1 i2 i3)) rfl (r:=[.int .i64 be]) kr (fun X' hM hC=>⟨be,hm,rfl,((hS.cell (id:=901) (t:=3) (cs:=[I am]) kr).out (f:=(bN (zAe0 i1 i2 i3))) hC kr kr (hP.at 0 rfl)),((hS.cell (id:=902) (t:=3) (cs:=[I ap]) kr).out (f:=(bN (zAe0 i1 i2 i3))) hC kr kr (hP.at 1 rfl)),((hS.cell (id:=903) (t:=43) (cs:=[Sl a2 aM c2]) kr).out (f:=(bN (zAe0 i1 i2 i3))) hC kr kr (hP.at 2 rfl))⟩)
   replace hm:=hm.2 hb
   refine aL ?_
   refine region (ePe T hS [5,16] [(8,I (wR (be+1)))] fun a hS=>?_)
   exact ⟨wR (be+1),⟨Z,_,hm.1,hS.sl _,hO,hP,h102,h104⟩,hm.2⟩
  replace hm:=hm.2 hb
  refine cl (by rfl) ?_
  exact ⟨Z,_,hm,hS.sl _,hO,hP,h104⟩
 rintro a yF ⟨Z,wZ,hm,hS,hO,hP,h101⟩
 unfold VC93_75_J1 at hm
 refine rPe T hS [] [(4,I (-1))] fun a hS=>?_
 refine aZ ?_
 exact gF T hS hO (fun c h=>bS kr h) (fun c h=>bT (l:=(zAe0 i1 i2 i3)) h) (bN (zAe0 i1 i2 i3)) rfl (r:=[.int .i64 (-1)]) kr (fun X' hM hC=>⟨(-1),hm,rfl,((hS.cell (id:=901) (t:=3) (cs:=[I am]) kr).out (f:=(bN (zAe0 i1 i2 i3))) hC kr kr (hP.at 0 rfl)),((hS.cell (id:=902) (t:=3) (cs:=[I ap]) kr).out (f:=(bN (zAe0 i1 i2 i3))) hC kr kr (hP.at 1 rfl)),((hS.cell (id:=903) (t:=43) (cs:=[Sl a2 aM c2]) kr).out (f:=(bN (zAe0 i1 i2 i3))) hC kr kr (hP.at 2 rfl))⟩)
theorem C93_75 (JY:S75) (v:∀ (s_:List (Int × Int)) (am:Int) (ap:Int) (aM:List Int),VC93_75 s_ am ap aM (fun r=>r=bl s_ am ap aM)):S93_75:=by
 intro w X s_ am ap aM a1 c1 a2 c2  b1 i1 b2 i2 b3 i3 h1 h2 ff gE lc hA
 refine (W93_75 JY w X s_ am ap aM a1 c1 a2 c2  b1 i1 b2 i2 b3 i3 _ (v s_ am ap aM) h1 h2 ff gE lc hA).mono ?_
 rintro _ _ _ _ ⟨r,rfl,h⟩
 exact h
theorem W78_75 (wl:S93_75) (w0) (X0) (s_:List (Int × Int)) (am:Int) (ap:Int) (aM:List Int) (a1) (c1) (a2) (c2) (b1) (i1) (b2) (i2) (b3) (i3) (Q:Bool->Prop) (hm:VC78_75 s_ am ap aM Q) (h1:RS tP2 w0 X0 a1 s_ c1) (h2:RS tI w0 X0 a2 aM c2) (ff:Cell w0 X0 b1 i1 3 [.int .i64 am]) (gE:Cell w0 X0 b2 i2 3 [.int .i64 ap]) (lc:Cell w0 X0 b3 i3 43 [.slice a2 aM.length c2]) (hA:dH [i1,i2,i3]) :
  Ret Tryz.prog 78 #[.slice a1 s_.length c1,.func (.func 75) #[] #[.pointer (some ⟨b1,0,none⟩),.pointer (some ⟨b2,0,none⟩),.pointer (some ⟨b3,0,none⟩)]] (pR [i1,i2,i3]) w0 X0 (fun w X' v=>∃ r,Q r/\v=.bool r/\Cell w X' b1 i1 3 [.int .i64 am]/\Cell w X' b2 i2 3 [.int .i64 ap]/\Cell w X' b3 i3 43 [.slice a2 aM.length c2]):=by
 unfold VC78_75 at hm
 replace hm:=hm (h1.sm kr)
 replace hm:=hm (h2.sm kr)
 refine fB Tryz.func78 rfl (dx (zAe0 i1 i2 i3)) (fun id=>(bif Nat.beq id 901 then b1 else (bif Nat.beq id 902 then b2 else (bif Nat.beq id 903 then b3 else 0)))) (args:=[Sl a1 s_ c1,.f (.func 75) [] [.p 901 0,.p 902 0,.p 903 0]]) (bxs:=[(901,(3,[I am])),(902,(3,[I ap])),(903,(43,[Sl a2 aM c2]))]) kr rfl (bm.cons kr (ff.map (bK 0 hA.1 rfl)) (bm.cons kr (gE.map (bK 1 hA.1 rfl)) (bm.cons kr (lc.map (bK 2 hA.1 rfl)) bm.nil))) (fm (fun q hq=>(hA.2 q.1 (List.mem_map.2 ⟨q,hq,rfl⟩)).1)) ?_
 intro a hS hO hM
 have hP:Pin [(901,b1),(902,b2),(903,b3)] (fun id=>(bif Nat.beq id 901 then b1 else (bif Nat.beq id 902 then b2 else (bif Nat.beq id 903 then b3 else 0)))):=by intro q hq; simp at hq; rcases hq with rfl | rfl | rfl <;> rfl
 generalize (fun id=>(bif Nat.beq id 901 then b1 else (bif Nat.beq id 902 then b2 else (bif Nat.beq id 903 then b3 else 0))))=Z at hS hP
 clear ff gE lc
 replace h1:=h1.m0 hM
 replace h2:=h2.m0 hM
 refine rPe T hS [] [] fun a hS=>?_
 refine bn ?_
 refine oPe T hS 2 [0,1] [(5,Sl a1 s_ c1),(6,.f (.func 75) [] [.p 901 0,.p 902 0,.p 903 0])] fun a hS=>?_
 refine op1 (lv hS kr kr hb93 kr (wl _ _ s_ am ap aM a1 c1 a2 c2 (Z 901) 901 (Z 902) 902 (Z 903) 903 h1 h2 (hS.cell (id:=901) (t:=3) (cs:=[I am]) kr) (hS.cell (id:=902) (t:=3) (cs:=[I ap]) kr) (hS.cell (id:=903) (t:=43) (cs:=[Sl a2 aM c2]) kr) ⟨by decide,by decide⟩) ?_)
 intro v101 a fh fo hE hp hS
 replace hO:=hO.m2 hE
 replace h1:=h1.m1 hE
 replace h2:=h2.m1 hE
 obtain ⟨hp,uM,uL,qr⟩:=hp
 obtain ⟨av,hr⟩:∃ r,bl s_ am ap aM=r:=⟨_,rfl⟩
 replace hm:=hm av hr
 rw [hr] at hp
 clear hr
 subst hp
 replace hS:=hS.cx (id:=901) (t:=3) (cs:=[I am]) kr uM
 replace hS:=hS.cx (id:=902) (t:=3) (cs:=[I ap]) kr uL
 replace hS:=hS.cx (id:=903) (t:=43) (cs:=[Sl a2 aM c2]) kr qr
 clear uM uL qr
 refine ePe T hS [5,6,7] [(4,B (decide (av≥0)))] fun a hS=>?_
 refine aZ ?_
 exact gF T hS hO (fun c h=>bS kr h) (fun c h=>bT (l:=(zAe0 i1 i2 i3)) h) (bN (zAe0 i1 i2 i3)) rfl (r:=[.bool (decide (av≥0))]) kr (fun X' hM hC=>⟨(decide (av≥0)),hm,rfl,((hS.cell (id:=901) (t:=3) (cs:=[I am]) kr).out (f:=(bN (zAe0 i1 i2 i3))) hC kr kr (hP.at 0 rfl)),((hS.cell (id:=902) (t:=3) (cs:=[I ap]) kr).out (f:=(bN (zAe0 i1 i2 i3))) hC kr kr (hP.at 1 rfl)),((hS.cell (id:=903) (t:=43) (cs:=[Sl a2 aM c2]) kr).out (f:=(bN (zAe0 i1 i2 i3))) hC kr kr (hP.at 2 rfl))⟩)
theorem C78_75 (wl:S93_75) (v:∀ (s_:List (Int × Int)) (am:Int) (ap:Int) (aM:List Int),VC78_75 s_ am ap aM (fun r=>r=bC s_ am ap aM)):S78_75:=by
 intro w X s_ am ap aM a1 c1 a2 c2  b1 i1 b2 i2 b3 i3 h1 h2 ff gE lc hA
 refine (W78_75 wl w X s_ am ap aM a1 c1 a2 c2  b1 i1 b2 i2 b3 i3 _ (v s_ am ap aM) h1 h2 ff gE lc hA).mono ?_
 rintro _ _ _ _ ⟨r,rfl,h⟩
 exact h
theorem W74 (E8:S77) (ws:S78_75) (w0) (X0) (x_:Int) (am:Int) (ap:List Int) (aM:List (Int × Int)) (a1) (c1) (a2) (c2) (b1) (i1) (b2) (i2) (b3) (i3) (Q:Bool->Prop) (hm:VC74 x_ am ap aM Q) (h1:RS tI w0 X0 a1 ap c1) (h2:RS tP2 w0 X0 a2 aM c2) (ff:Cell w0 X0 b1 i1 3 [.int .i64 am]) (gE:Cell w0 X0 b2 i2 43 [.slice a1 ap.length c1]) (lc:Cell w0 X0 b3 i3 95 [.slice a2 aM.length c2]) (hA:dH [i1,i2,i3]) :
  Ret Tryz.prog 74 #[.int .i64 x_,.pointer (some ⟨b1,0,none⟩),.pointer (some ⟨b2,0,none⟩),.pointer (some ⟨b3,0,none⟩)] (pR [i1,i2,i3]) w0 X0 (fun w X' v=>∃ r,Q r/\v=.bool r/\Cell w X' b1 i1 3 [.int .i64 am]/\Cell w X' b2 i2 43 [.slice a1 ap.length c1]/\Cell w X' b3 i3 95 [.slice a2 aM.length c2]):=by
 unfold VC74 at hm
 replace hm:=hm (h1.sm kr)
 replace hm:=hm (h2.sm kr)
 refine fB Tryz.func74 rfl (dx (zAe0 i1 i2 i3)) (fun id=>(bif Nat.beq id 901 then b1 else (bif Nat.beq id 902 then b2 else (bif Nat.beq id 903 then b3 else 0)))) (args:=[I x_,Pt 901 0,Pt 902 0,Pt 903 0]) (bxs:=[(901,(3,[I am])),(902,(43,[Sl a1 ap c1])),(903,(95,[Sl a2 aM c2]))]) kr rfl (bm.cons kr (ff.map (bK 0 hA.1 rfl)) (bm.cons kr (gE.map (bK 1 hA.1 rfl)) (bm.cons kr (lc.map (bK 2 hA.1 rfl)) bm.nil))) (fm (fun q hq=>(hA.2 q.1 (List.mem_map.2 ⟨q,hq,rfl⟩)).1)) ?_
 intro a hS hO hM
 have hP:Pin [(901,b1),(902,b2),(903,b3)] (fun id=>(bif Nat.beq id 901 then b1 else (bif Nat.beq id 902 then b2 else (bif Nat.beq id 903 then b3 else 0)))):=by intro q hq; simp at hq; rcases hq with rfl | rfl | rfl <;> rfl
 generalize (fun id=>(bif Nat.beq id 901 then b1 else (bif Nat.beq id 902 then b2 else (bif Nat.beq id 903 then b3 else 0))))=Z at hS hP
 clear ff gE lc
 replace h1:=h1.m0 hM
 replace h2:=h2.m0 hM
 refine rM T hS ⟨[(1,Pt 901 0),(2,Pt 902 0),(3,Pt 903 0),(4,Pt 5 0)],[(5,(3,[I x_])),(901,(3,[I am])),(902,(43,[Sl a1 ap c1])),(903,(95,[Sl a2 aM c2]))]⟩ fun Z a Ag vA hS hE hr=>?_
 replace hO:=hO.m2 hE
 replace h1:=h1.m1 hE
 replace h2:=h2.m1 hE
 replace hP:=hP.mv hr kr
 clear hE hr
 refine rPe T hS [1] [(6,.f (.func 75) [] [.p 901 0,.p 5 0,.p 902 0])] fun a hS=>?_
 refine bn ?_
 refine oPe T hS 2 [2,4] [(8,Sl a1 ap c1),(9,I x_)] fun a hS=>?_
 refine op1 (call hS kr kr hb77 kr (fun _ _=>rfl) (E8 _ _ ap x_ a1 c1 h1) ?_)
 intro v101 a fh fo hE hp hS
 replace hO:=hO.m2 hE
 replace h1:=h1.m1 hE
 replace h2:=h2.m1 hE
 obtain ⟨av,hr⟩:∃ r,cn ap x_=r:=⟨_,rfl⟩
 replace hm:=hm av hr
 rw [hr] at hp
 clear hr
 subst hp
 refine oPe T hS 1 [8,9,10] [(11,B av)] fun a hS=>?_
 rcases bft av with hb | hb
 ·replace hS:=hS.lit (t:=11) kr hb
  replace hm:=hm.1 hb
  refine eP T hS ⟨[(5,B true)],[(901,(3,[I am])),(902,(43,[Sl a1 ap c1])),(903,(95,[Sl a2 aM c2]))]⟩ fun a hS=>?_
  refine aZ ?_
  exact gF T hS hO (fun c h=>bS kr h) (fun c h=>bT (l:=(zAe0 i1 i2 i3)) h) (bN (zAe0 i1 i2 i3)) rfl (r:=[.bool true]) kr (fun X' hM hC=>⟨true,hm,rfl,((hS.cell (id:=901) (t:=3) (cs:=[I am]) kr).out (f:=(bN (zAe0 i1 i2 i3))) hC kr kr (hP.at 0 rfl)),((hS.cell (id:=902) (t:=43) (cs:=[Sl a1 ap c1]) kr).out (f:=(bN (zAe0 i1 i2 i3))) hC kr kr (hP.at 1 rfl)),((hS.cell (id:=903) (t:=95) (cs:=[Sl a2 aM c2]) kr).out (f:=(bN (zAe0 i1 i2 i3))) hC kr kr (hP.at 2 rfl))⟩)
 replace hS:=hS.lit (t:=11) kr hb
 replace hm:=hm.2 hb
 refine oPe T hS 2 [3,6] [(12,Sl a2 aM c2),(13,.f (.func 75) [] [.p 901 0,.p 5 0,.p 902 0])] fun a hS=>?_
 refine op1 (lv hS kr kr hb78 kr (ws _ _ aM am x_ ap a2 c2 a1 c1 (Z 901) 901 (Z 5) 5 (Z 902) 902 h2 h1 (hS.cell (id:=901) (t:=3) (cs:=[I am]) kr) (hS.cell (id:=5) (t:=3) (cs:=[I x_]) kr) (hS.cell (id:=902) (t:=43) (cs:=[Sl a1 ap c1]) kr) ⟨by decide,by decide⟩) ?_)
 intro v105 a nk ne hE hp hS
 replace hO:=hO.m2 hE
 replace h1:=h1.m1 hE
 replace h2:=h2.m1 hE
 obtain ⟨hp,Ee,uK,uJ⟩:=hp
 obtain ⟨a8,hr⟩:∃ r,bC aM am x_ ap=r:=⟨_,rfl⟩
 replace hm:=hm a8 hr
 rw [hr] at hp
 clear hr
 subst hp
 replace hS:=hS.cx (id:=901) (t:=3) (cs:=[I am]) kr Ee
 replace hS:=hS.cx (id:=5) (t:=3) (cs:=[I x_]) kr uK
 replace hS:=hS.cx (id:=902) (t:=43) (cs:=[Sl a1 ap c1]) kr uJ
 clear Ee uK uJ
 refine eP T hS ⟨[(5,B a8)],[(901,(3,[I am])),(902,(43,[Sl a1 ap c1])),(903,(95,[Sl a2 aM c2]))]⟩ fun a hS=>?_
 refine aZ ?_
 exact gF T hS hO (fun c h=>bS kr h) (fun c h=>bT (l:=(zAe0 i1 i2 i3)) h) (bN (zAe0 i1 i2 i3)) rfl (r:=[.bool a8]) kr (fun X' hM hC=>⟨a8,hm,rfl,((hS.cell (id:=901) (t:=3) (cs:=[I am]) kr).out (f:=(bN (zAe0 i1 i2 i3))) hC kr kr (hP.at 0 rfl)),((hS.cell (id:=902) (t:=43) (cs:=[Sl a1 ap c1]) kr).out (f:=(bN (zAe0 i1 i2 i3))) hC kr kr (hP.at 1 rfl)),((hS.cell (id:=903) (t:=95) (cs:=[Sl a2 aM c2]) kr).out (f:=(bN (zAe0 i1 i2 i3))) hC kr kr (hP.at 2 rfl))⟩)
theorem C74 (E8:S77) (ws:S78_75) (v:∀ (x_:Int) (am:Int) (ap:List Int) (aM:List (Int × Int)),VC74 x_ am ap aM (fun r=>r=cW x_ am ap aM)):S74:=by
 intro w X x_ am ap aM a1 c1 a2 c2  b1 i1 b2 i2 b3 i3 h1 h2 ff gE lc hA
 refine (W74 E8 ws w X x_ am ap aM a1 c1 a2 c2  b1 i1 b2 i2 b3 i3 _ (v x_ am ap aM) h1 h2 ff gE lc hA).mono ?_
 rintro _ _ _ _ ⟨r,rfl,h⟩
 exact h
theorem W44 (JZ:S74) (w0) (X0) (n_:Int) (pairs:List (Int × Int)) (a1) (c1) (Q:(List Int) × Bool->Prop) (hm:VC44 n_ pairs Q) (h1:RS tP2 w0 X0 a1 pairs c1) :
  Ret Tryz.prog 44 #[.int .i64 n_,.slice a1 pairs.length c1] aJ w0 X0 (fun w X' v=>∃ r,Q r/\∃ cB cA,v=.tuple #[.slice cB r.1.length cA,.bool r.2]/\RS tI w X' cB r.1 cA):=by
 unfold VC44 at hm
 replace hm:=hm (h1.sm kr)
 refine enter Tryz.func44 rfl (vals:=[.int .i64 n_,.slice a1 pairs.length c1]) kr ?_
 intro Z a hS hO hM
 replace h1:=h1.m0 hM
 refine rM T hS ⟨[(2,Pt 3 0),(3,Pt 4 0)],[(3,(3,[I n_])),(4,(95,[Sl a1 pairs c1]))]⟩ fun Z a GF PZ hS hE hr=>?_
 replace hO:=hO.m2 hE
 replace h1:=h1.m1 hE
 clear hE hr
 refine bd ?_
 refine rPe T hS [] [(14,B ((decide (n_ < 0)) || (decide (n_ > 64))))] (sp:=[11]) fun a hS=>?_
 refine aF hS (b:=((decide (n_ < 0)) || (decide (n_ > 64)))) kr (fun hb=>?_) fun hb=>?_
 ·replace hm:=hm.1 hb
  refine rP T hS ⟨[(4,V (.slice none 0 0)),(5,B false)],[]⟩ fun a hS=>?_
  refine aZ ?_
  exact fin T hS hO (fun c=>c) rfl (r:=[.slice none 0 0,.bool false]) kr (fun X' hM hC=>⟨([],false),hm,none,0,rfl,RS.empty _ _ _⟩)
 replace hm:=hm.2 hb
 refine aL ?_
 refine bn ?_
 refine oPe T hS 1 [14] [(15,I n_)] fun a hS=>?_
 obtain ⟨hq,hm⟩:=hm
 refine op1 (make (E:=3) (kl:=.i64) (kc:=.i64) (col:=1005) (T:=tI) T 0 hS kr kr kr kr kr kr hq.1 hq.2.1 (by have:=hq.2.2; have e_:((tI.bytes:Nat):Int)=8:=rfl; rw [e_]; omega) (by have:=hq.2.2; omega) (fun _ _=>rfl) ?_)
 intro b101 a fh fo hE h104 hN hS
 clear hq hN
 replace hO:=hO.m2 hE
 replace h1:=h1.m1 hE
 replace hS:=hS.conv (t:=16) (y:=.slice (some ⟨b101,0,none⟩) (List.replicate (0:Int).toNat (0:Int)).length n_.toNat) kr (by rw [List.length_replicate])
 refine eM T hS ⟨[(2,Pt 3 0),(3,Pt 4 0),(6,Pt 7 0)],[(3,(3,[I n_])),(4,(95,[Sl a1 pairs c1])),(7,(43,[V (.slice (some ⟨b101,0,none⟩) (List.replicate (0:Int).toNat (0:Int)).length n_.toNat)]))]⟩ fun Z a Cq Iz hS hE hr=>?_
 replace hO:=hO.m2 hE
 replace h1:=h1.m1 hE
 replace h104:=h104.m2 hE
 clear hE hr
 refine rPe T hS [3] [(7,.f (.func 74) [] [.p 3 0,.p 7 0,.p 4 0])] fun a hS=>?_
 refine b5 (fun a w=>∃ (Z:Nat->Nat) (X:Nat->Nat) (gC:List Int) (j7:Option Addr) (jZ:Nat),VC44_J1 Q gC/\St Tryz.f44.ntmps ⟨[(6,Pt 7 0)],[(7,(43,[Sl j7 gC jZ]))]⟩ Z a w X/\Old w0 X0 w X/\OS tI 3 w X 1005 j7 gC jZ) ?_ ?_
 ·refine aN ?_
  obtain ⟨I1,μ1,cy,hm⟩:=hm
  refine cw (σ:=(List Int)) (fun s a w=>∃ Z X i7 i6,I1 s/\St Tryz.f44.ntmps ⟨[(2,Pt 3 0),(6,Pt 7 0),(7,.f (.func 74) [] [.p 3 0,.p 7 0,.p 4 0])],[(3,(3,[I n_])),(4,(95,[Sl a1 pairs c1])),(7,(43,[Sl i7 s i6]))]⟩ Z a w X/\Old w0 X0 w X/\RS tP2 w X a1 pairs c1/\OS tI 3 w X 1005 i7 s i6) (fun s=>μ1 s) (List.replicate (0:Int).toNat (0:Int)) ?_ ?_
  ·exact ⟨Z,_,(some ⟨b101,0,none⟩),n_.toNat,cy,hS.sl _,hO,h1,h104⟩
  rintro cM a Cr ⟨Z,BV,i7,i6,hI,hS,hO,h111,h115⟩
  replace hm:=hm cM hI
  clear hI cy
  refine bd ?_
  refine rPe T hS [] [(21,B (decide ((lN cM) < n_)))] fun a hS=>?_
  refine aF hS (b:=decide ((lN cM) < n_)) kr (fun hb=>?_) fun hb=>?_
  ·replace hm:=hm.1 hb
   refine aL ?_
   refine aN ?_
   refine rPe T hS [21] [(8,I 0)] fun a hS=>?_
   refine b5 (fun a w=>∃ (Z:Nat->Nat) (X:Nat->Nat) (aY:Int) (je:List Int) (qP:Option Addr) (qH:Nat),VC44_J2 n_ Q I1 μ1 cM aY je/\St Tryz.f44.ntmps ⟨[(2,Pt 3 0),(6,Pt 7 0),(7,.f (.func 74) [] [.p 3 0,.p 7 0,.p 4 0]),(8,I aY)],[(3,(3,[I n_])),(4,(95,[Sl a1 pairs c1])),(7,(43,[Sl qP je qH]))]⟩ Z a w X/\Old w0 X0 w X/\RS tP2 w X a1 pairs c1/\OS tI 3 w X 1005 qP je qH) ?_ ?_
   ·refine aN ?_
    obtain ⟨I2,μ2,cy,hm⟩:=hm
    refine cw (σ:=Int × (List Int)) (fun s a w=>∃ Z X nc m8,I2 s.1 s.2/\St Tryz.f44.ntmps ⟨[(2,Pt 3 0),(6,Pt 7 0),(7,.f (.func 74) [] [.p 3 0,.p 7 0,.p 4 0]),(8,I s.1)],[(3,(3,[I n_])),(4,(95,[Sl a1 pairs c1])),(7,(43,[Sl nc s.2 m8]))]⟩ Z a w X/\Old w0 X0 w X/\RS tP2 w X a1 pairs c1/\OS tI 3 w X 1005 nc s.2 m8) (fun s=>μ2 s.1 s.2) (⟨0,cM⟩) ?_ ?_
    ·exact ⟨Z,_,i7,i6,cy,hS.sl _,hO,h111,h115⟩
    rintro ⟨mc,fX⟩ a Cs ⟨Z,Dx,nc,m8,hI,hS,hO,h134,h138⟩
    replace hm:=hm mc fX hI
    clear hI cy
    refine bd ?_
    refine b5 (fun a w=>∃ (Z:Nat->Nat) (X:Nat->Nat) (jd:Bool) (iV:List Int) (jO:Option Addr) (jK:Nat),VC44_J3 n_ Q I1 μ1 cM I2 μ2 mc fX jd iV/\St Tryz.f44.ntmps ⟨[(2,Pt 3 0),(6,Pt 7 0),(7,.f (.func 74) [] [.p 3 0,.p 7 0,.p 4 0]),(8,I mc),(29,B jd)],[(3,(3,[I n_])),(4,(95,[Sl a1 pairs c1])),(7,(43,[Sl jO iV jK]))]⟩ Z a w X/\Old w0 X0 w X/\RS tP2 w X a1 pairs c1/\OS tI 3 w X 1005 jO iV jK) ?_ ?_
    ·refine region ?_
     refine oPe T hS 4 [] [(25,B (decide (mc < n_)))] fun a hS=>?_
     rcases bft (decide (mc < n_)) with hb | hb
     ·replace hS:=hS.lit (t:=25) kr hb
      replace hm:=hm.1 hb
      refine oPe T hS 2 [] [(26,.f (.func 74) [] [.p 3 0,.p 7 0,.p 4 0]),(27,I mc)] fun a hS=>?_
      have hb149:=(hS.cell (id:=3) (t:=3) (cs:=[I n_]) kr)
      have hb150:=(hS.cell (id:=7) (t:=43) (cs:=[Sl nc fX m8]) kr)
      have hb151:=(hS.cell (id:=4) (t:=95) (cs:=[Sl a1 pairs c1]) kr)
      refine op1 (jI (fi:=[]) (cp:=[.p 3 0,.p 7 0,.p 4 0]) hS kr kr hb74 kr kr (Ret.sk kr (JZ _ (eu 1005 _) mc n_ fX pairs nc m8 a1 c1 (Z 3) 3 (Z 7) 7 (Z 4) 4 h138.eu (h134.m0 (M0.eu 1005)) (hb149.eu kr) (hb150.eu kr) (hb151.eu kr) ⟨by decide,by decide⟩)) ?_)
      intro v145 a Cv ID hE hp hS
      replace hO:=hO.m2 hE
      replace h134:=h134.m1 hE
      replace h138:=h138.m2 hE
      obtain ⟨lm,_,hp⟩:=hp
      obtain ⟨hp,x5,x4,x3⟩:=hp
      replace x5:=x5.back hb149 lm
      replace x4:=x4.back hb150 lm
      replace x3:=x3.back hb151 lm
      clear lm hb149 hb150 hb151
      obtain ⟨yV,hr⟩:∃ r,cW mc n_ fX pairs=r:=⟨_,rfl⟩
      replace hm:=hm yV hr
      rw [hr] at hp
      clear hr
      subst hp
      replace hS:=hS.cx (id:=3) (t:=3) (cs:=[I n_]) kr x5
      replace hS:=hS.cx (id:=7) (t:=43) (cs:=[Sl nc fX m8]) kr x4
      replace hS:=hS.cx (id:=4) (t:=95) (cs:=[Sl a1 pairs c1]) kr x3
      clear x5 x4 x3
      refine ePe T hS [25,26,27,28] [(29,B yV)] fun a hS=>?_
      exact ⟨Z,_,yV,fX,nc,m8,hm,hS.sl _,hO,h134,h138⟩
     replace hS:=hS.lit (t:=25) kr hb
     replace hm:=hm.2 hb
     refine ePe T hS [25] [(29,B false)] fun a hS=>?_
     exact ⟨Z,_,false,fX,nc,m8,hm,hS.sl _,hO,h134,h138⟩
    rintro a GI ⟨Z,wT,jd,iV,jO,jK,hm,hS,hO,h140,h144⟩
    unfold VC44_J3 at hm
    refine aF hS (b:=jd) kr (fun hb=>?_) fun hb=>?_
    ·replace hm:=hm.1 hb
     refine aL ?_
     refine aN ?_
     refine region (ePe T hS [29] [(8,I (wR (mc+1)))] fun a hS=>?_)
     exact ⟨⟨wR (mc+1),iV⟩,⟨Z,_,jO,jK,hm.1,hS.sl _,hO,h140,h144⟩,hm.2⟩
    replace hm:=hm.2 hb
    refine cl (by rfl) ?_
    exact ⟨Z,_,mc,iV,jO,jK,hm,hS.sl _,hO,h140,h144⟩
   rintro a Ac ⟨Z,F3,aY,je,qP,qH,hm,hS,hO,h117,h121⟩
   unfold VC44_J2 at hm
   refine bd ?_
   refine rPe T hS [] [(34,B (aY == n_))] fun a hS=>?_
   refine aF hS (b:=(aY == n_)) kr (fun hb=>?_) fun hb=>?_
   ·replace hm:=hm.1 hb
    refine rP T hS ⟨[(4,V (.slice none 0 0)),(5,B false)],[]⟩ fun a hS=>?_
    refine aZ ?_
    exact fin T hS hO (fun c=>c) rfl (r:=[.slice none 0 0,.bool false]) kr (fun X' hM hC=>⟨([],false),hm,none,0,rfl,RS.empty _ _ _⟩)
   replace hm:=hm.2 hb
   refine aL ?_
   refine region ?_
   refine oPe T hS 2 [8,34] [(35,Sl qP je qH),(36,I aY)] fun a hS=>?_
   refine op1 (lit (E:=3) (col:=0) (T:=tI) (vals:=[.int .i64 aY]) (ys:=[aY]) T hS kr kr kr kr (by exact ⟨rfl,trivial⟩) rfl kr kr kr kr ?_)
   intro b122 a EI wY hE h125 hN hS
   clear hN
   replace hO:=hO.m2 hE
   replace h117:=h117.m1 hE
   replace h121:=h121.m2 hE
   replace h125:=h125.rs0
   obtain ⟨hq,hm⟩:=hm
   obtain ⟨news,hN⟩:=h125.src
   refine op1 (append (E:=3) (T:=tI) (col:=1005) (xs:=je) T hS kr kr kr kr h121 hN kr kr kr kr hq ?_)
   intro lj li a tQ qR hE h128 hS
   clear hq hN
   clear h121
   replace hO:=hO.m2 hE
   replace h117:=h117.m1 hE
   replace h125:=h125.m1 hE
   refine eM T hS ⟨[(2,Pt 3 0),(6,Pt 7 0),(7,.f (.func 74) [] [.p 3 0,.p 7 0,.p 4 0])],[(3,(3,[I n_])),(4,(95,[Sl a1 pairs c1])),(7,(43,[Sl lj (je++[aY]) li]))]⟩ fun Z a qZ qQ hS hE hr=>?_
   replace hO:=hO.m2 hE
   replace h117:=h117.m1 hE
   replace h128:=h128.m2 hE
   clear hE hr
   exact ⟨je++[aY],⟨Z,_,lj,li,hm.1,hS.sl _,hO,h117,h128⟩,hm.2⟩
  replace hm:=hm.2 hb
  refine cl (by rfl) ?_
  exact ⟨Z,_,cM,i7,i6,hm,hS.sl _,hO,h115⟩
 rintro a ED ⟨Z,Dv,gC,j7,jZ,hm,hS,hO,h108⟩
 unfold VC44_J1 at hm
 refine rP T hS ⟨[(4,Sl j7 gC jZ),(5,B true)],[]⟩ fun a hS=>?_
 refine aZ ?_
 obtain ⟨B2,hE,hF⟩:=h108.freeze (by decide)
 replace hS:=hS.ev hE (cN kr)
 replace hO:=hO.m2 hE
 have h110:=hF; clear hE hF
 exact fin T hS hO (fun c=>c) rfl (r:=[.slice j7 gC.length jZ,.bool true]) kr (fun X' hM hC=>⟨(gC,true),hm,j7,jZ,rfl,h110.m0 hM⟩)
theorem C44 (JZ:S74) (v:∀ (n_:Int) (pairs:List (Int × Int)),VC44 n_ pairs (fun r=>r=c8 n_ pairs)):S44:=by
 intro w X n_ pairs a1 c1   h1
 refine (W44 JZ w X n_ pairs a1 c1   _ (v n_ pairs) h1).mono ?_
 rintro _ _ _ _ ⟨r,rfl,h⟩
 exact h
theorem W47 (w0) (X0) (h_:aj) (a1) (c1) (a2) (c2) (Q:(List au)->Prop) (hm:VC47 h_ Q) (h1:RS az w0 X0 a1 h_.ae c1) (h2:RS aI w0 X0 a2 h_.ak c2) :
  Ret Tryz.prog 47 #[.agg #[.slice a1 h_.ae.length c1,.slice a2 h_.ak.length c2]] aJ w0 X0 (fun w X' v=>∃ r,Q r/\∃ cB cA,v=.slice cB r.length cA/\RS aO w X' cB r cA):=by
 unfold VC47 at hm
 replace hm:=hm (h1.sm kr)
 replace hm:=hm (h2.sm kr)
 refine enter Tryz.func47 rfl (vals:=[.agg #[.slice a1 h_.ae.length c1,.slice a2 h_.ak.length c2]]) kr ?_
 intro Z a hS hO hM
 replace h1:=h1.m0 hM
 replace h2:=h2.m0 hM
 refine rM T hS ⟨[(1,Pt 2 0)],[(2,(25,[Sl a1 h_.ae c1,Sl a2 h_.ak c2]))]⟩ fun Z a qZ qQ hS hE hr=>?_
 replace hO:=hO.m2 hE
 replace h1:=h1.m1 hE
 replace h2:=h2.m1 hE
 clear hE hr
 refine rPe T hS [] [(3,V (.slice none 0 0))] fun a hS=>?_
 refine b5 (fun a w=>∃ (Z:Nat->Nat) (X:Nat->Nat) (bv:List au) (dk:Option Addr) (dj:Nat),VC47_J1 Q bv/\St Tryz.f47.ntmps ⟨[(3,Sl dk bv dj)],[]⟩ Z a w X/\Old w0 X0 w X/\OS aO 61 w X 1003 dk bv dj) ?_ ?_
 ·refine rP T hS ⟨[(3,V (.slice none 0 0)),(7,Sl a2 h_.ak c2),(8,I (lN h_.ak)),(9,I 0)],[]⟩ fun a hS=>?_
  refine aN ?_
  obtain ⟨I1,μ1,cy,hm⟩:=hm
  refine cw (σ:=(List au) × Int) (fun s a w=>∃ Z X iC iB,I1 s.1 s.2/\St Tryz.f47.ntmps ⟨[(3,Sl iC s.1 iB),(7,Sl a2 h_.ak c2),(8,I (lN h_.ak)),(9,I s.2)],[]⟩ Z a w X/\Old w0 X0 w X/\OS aO 61 w X 1003 iC s.1 iB/\RS aI w X a2 h_.ak c2) (fun s=>μ1 s.1 s.2) (⟨[],0⟩) ?_ ?_
  ·exact ⟨Z,_,none,0,cy,hS.sl _,hO,(OS.nil _ _ _ _ _),h2⟩
  rintro ⟨gB,cM⟩ a q5 ⟨Z,qR,iC,iB,hI,hS,hO,h110,h111⟩
  replace hm:=hm gB cM hI
  clear hI cy
  refine rPe T hS [] [(10,B (decide (cM < (lN h_.ak))))] fun a hS=>?_
  refine bd ?_
  refine aF hS (b:=decide (cM < (lN h_.ak))) kr (fun hb=>?_) fun hb=>?_
  ·replace hm:=hm.1 hb
   refine aL (bd ?_)
   refine aN ?_
   refine bn ?_
   obtain ⟨hq,hm⟩:=hm
   refine op1 (index (e:=63) (k:=.i64) T hS kr kr kr kr h111 kr kr hq.1 hq.2 ?_)
   intro Gf a h114 hS
   refine op1 (eB T hS kr kr kr h114 kr kr ?_)
   intro v115 a hv hS
   subst hv
   refine eM T hS ⟨[(3,Sl iC gB iB),(5,Pt 6 0),(7,Sl a2 h_.ak c2),(8,I (lN h_.ak)),(9,I cM)],[(6,(63,[I ((gi h_.ak cM).aw),I (((gi h_.ak cM).aK).bh),I (((gi h_.ak cM).aK).ah),I (((gi h_.ak cM).aK).N)]))]⟩ fun Z a yE wX hS hE hr=>?_
   replace hO:=hO.m2 hE
   replace h110:=h110.m2 hE
   replace h111:=h111.m1 hE
   clear hE hr
   refine region ?_
   refine oP T hS 3 ⟨[(3,Sl iC gB iB),(7,Sl a2 h_.ak c2),(8,I (lN h_.ak)),(9,I cM),(13,Sl iC gB iB),(15,V (.agg #[.int .i64 (((gi h_.ak cM).aK).bh),.int .i64 (((gi h_.ak cM).aK).ah),.int .i64 (((gi h_.ak cM).aK).N)]))],[]⟩ fun a hS=>?_
   refine op1 (lit (E:=61) (col:=0) (T:=aO) (vals:=[.agg #[.int .i64 (((gi h_.ak cM).aK).bh),.int .i64 (((gi h_.ak cM).aK).ah),.int .i64 (((gi h_.ak cM).aK).N)]]) (ys:=[((gi h_.ak cM).aK)]) T hS kr kr kr kr (by exact ⟨rfl,trivial⟩) rfl kr kr kr kr ?_)
   intro b116 a Af DA hE h119 hN hS
   clear hN
   replace hO:=hO.m2 hE
   replace h110:=h110.m2 hE
   replace h111:=h111.m1 hE
   replace h119:=h119.rs0
   obtain ⟨hq,hm⟩:=hm
   obtain ⟨news,hN⟩:=h119.src
   refine op1 (append (E:=61) (T:=aO) (col:=1003) (xs:=gB) T hS kr kr kr kr h110 hN kr kr kr kr hq ?_)
   intro oF oB a Ae Dz hE h122 hS
   clear hq hN
   clear h110
   replace hO:=hO.m2 hE
   replace h111:=h111.m1 hE
   replace h119:=h119.m1 hE
   refine ePe T hS [15,16,17] [(3,Sl oF (gB++[((gi h_.ak cM).aK)]) oB)] fun a hS=>?_
   refine region (ePe T hS [] [(9,I (wR (cM+1)))] fun a hS=>?_)
   exact ⟨⟨gB++[((gi h_.ak cM).aK)],wR (cM+1)⟩,⟨Z,_,oF,oB,hm.1,hS.sl _,hO,h122,h111⟩,hm.2⟩
  replace hm:=hm.2 hb
  refine cl (by rfl) ?_
  exact ⟨Z,_,gB,iC,iB,hm,hS.sl _,hO,h110⟩
 rintro a tP ⟨Z,rb,bv,dk,dj,hm,hS,hO,h104⟩
 unfold VC47_J1 at hm
 refine rPe T hS [3] [(2,Sl dk bv dj)] fun a hS=>?_
 refine aZ ?_
 obtain ⟨oH,hE,hF⟩:=h104.freeze (by decide)
 replace hS:=hS.ev hE (cN kr)
 replace hO:=hO.m2 hE
 have h106:=hF; clear hE hF
 exact fin T hS hO (fun c=>c) rfl (r:=[.slice dk bv.length dj]) kr (fun X' hM hC=>⟨bv,hm,dk,dj,rfl,h106.m0 hM⟩)
theorem C47 (v:∀ (h_:aj),kD h_->VC47 h_ (fun r=>r=bk h_)):S47:=by
 intro w X h_ a1 c1 a2 c2   hp h1 h2
 refine (W47 w X h_ a1 c1 a2 c2   _ (v h_ hp) h1 h2).mono ?_
 rintro _ _ _ _ ⟨r,rfl,h⟩
 exact h
theorem W52 (tb:S53) (w0) (X0) (o_:al) (a1) (c1) (Q:Bool->Prop) (hm:VC52 o_ Q) (h1:RS ay w0 X0 a1 o_.Rows c1) :
  Ret Tryz.prog 52 #[.agg #[.int .i64 o_.aq,.int .i64 o_.ax,.int .i64 o_.aE,.slice a1 o_.Rows.length c1]] aJ w0 X0 (fun w X' v=>∃ r,Q r/\v=.bool r):=by
 unfold VC52 at hm
 replace hm:=hm (h1.sm kr)
 refine enter Tryz.func52 rfl (vals:=[.agg #[.int .i64 o_.aq,.int .i64 o_.ax,.int .i64 o_.aE,.slice a1 o_.Rows.length c1]]) kr ?_
 intro Z a hS hO hM
 replace h1:=h1.m0 hM
 refine rM T hS ⟨[(1,Pt 2 0)],[(2,(48,(cO o_ a1 c1)))]⟩ fun Z a mH lB hS hE hr=>?_
 replace hO:=hO.m2 hE
 replace h1:=h1.m1 hE
 clear hE hr
 refine bn ?_
 refine oP T hS 1 ⟨[(6,V (.agg #[.int .i64 o_.aq,.int .i64 o_.ax,.int .i64 o_.aE,.slice a1 o_.Rows.length c1]))],[]⟩ fun a hS=>?_
 obtain ⟨hq,hm⟩:=hm
 refine op1 (call hS kr kr hb53 kr (fun _ _=>rfl) (tb _ _ o_ a1 c1 hq h1) ?_)
 intro v101 a fh fo hE hp hS
 replace hO:=hO.m2 hE
 replace h1:=h1.m1 hE
 obtain ⟨av,hr⟩:∃ r,bq o_=r:=⟨_,rfl⟩
 replace hm:=hm av hr
 rw [hr] at hp
 clear hr
 subst hp
 refine ePe T hS [6,7] [(4,I av.2)] fun a hS=>?_
 refine rPe T hS [4] [(2,B (av.2 != 0))] fun a hS=>?_
 refine aZ ?_
 exact fin T hS hO (fun c=>c) rfl (r:=[.bool (av.2 != 0)]) kr (fun X' hM hC=>⟨(av.2 != 0),hm,rfl⟩)
theorem C52 (tb:S53) (v:∀ (o_:al),jV o_->VC52 o_ (fun r=>r=cG o_)):S52:=by
 intro w X o_ a1 c1   hp h1
 refine (W52 tb w X o_ a1 c1   _ (v o_ hp) h1).mono ?_
 rintro _ _ _ _ ⟨r,rfl,h⟩
 exact h
theorem W83_52 (Kc:S52) (w0) (X0) (s_:List al) (a1) (c1) (Q:Int->Prop) (hm:VC83_52 s_ Q) (h1:RS az w0 X0 a1 s_ c1) (hA:dH []) :
  Ret Tryz.prog 83 #[.slice a1 s_.length c1,.func (.func 52) #[] #[]] (pR []) w0 X0 (fun w X' v=>∃ r,Q r/\v=.int .i64 r):=by
 unfold VC83_52 at hm
 replace hm:=hm (h1.sm kr)
 refine fB Tryz.func83 rfl (dx []) (fun id=>0) (args:=[Sl a1 s_ c1,.f (.func 52) [] []]) (bxs:=[]) kr rfl bm.nil (fm (fun q hq=>(hA.2 q.1 (List.mem_map.2 ⟨q,hq,rfl⟩)).1)) ?_
 intro a hS hO hM
 generalize (fun id:Nat=>0)=Z at hS
 replace h1:=h1.m0 hM
 refine rPe T hS [] [] fun a hS=>?_
 refine b5 (fun a w=>∃ Z X,VC83_52_J1 Q/\St Tryz.f83.ntmps ⟨[],[]⟩ Z a w X/\fU (dx []) w0 X0 w X) ?_ ?_
 ·refine rPe T hS [] [(7,I (lN s_)),(8,I 0)] fun a hS=>?_
  refine aN ?_
  obtain ⟨I1,μ1,cy,hm⟩:=hm
  refine cw (σ:=Int) (fun s a w=>∃ Z X,I1 s/\St Tryz.f83.ntmps ⟨[(0,Sl a1 s_ c1),(1,.f (.func 52) [] []),(7,I (lN s_)),(8,I s)],[]⟩ Z a w X/\fU (dx []) w0 X0 w X/\RS az w X a1 s_ c1) (fun s=>μ1 s) (0) ?_ ?_
  ·exact ⟨Z,_,cy,hS.sl _,hO,h1⟩
  rintro br a GL ⟨Z,vA,hI,hS,hO,h101⟩
  replace hm:=hm br hI
  clear hI cy
  refine rPe T hS [] [(9,B (decide (br < (lN s_))))] fun a hS=>?_
  refine bd ?_
  refine aF hS (b:=decide (br < (lN s_))) kr (fun hb=>?_) fun hb=>?_
  ·replace hm:=hm.1 hb
   refine aL (bd ?_)
   refine aN ?_
   refine rPe T hS [9] [(5,I br)] fun a hS=>?_
   refine bn ?_
   refine oPe T hS 3 [] [(11,.f (.func 52) [] []),(12,Sl a1 s_ c1),(13,I br)] fun a hS=>?_
   obtain ⟨hq,hm⟩:=hm
   refine op1 (index (e:=48) (k:=.i64) T hS kr kr kr kr h101 kr kr hq.1 hq.2 ?_)
   intro tJ a h104 hS
   refine op1 (eB T hS kr kr kr h104 kr kr ?_)
   intro v105 a hv hS
   obtain ⟨j7,jZ,hv,h108⟩:=hv
   subst hv
   replace hm:=hm (h108.sm kr)
   obtain ⟨hq,hm⟩:=hm
   refine op1 (Ex (fi:=[]) (cp:=[]) hS kr kr hb52 kr kr (fun _ _=>rfl) (Kc _ _ (gi s_ br) j7 jZ hq h108) ?_)
   intro v109 a EJ F7 hE hp hS
   replace hO:=hO.m2 hE
   replace h101:=h101.m1 hE
   replace h104:=h104.m1 hE
   replace h108:=h108.m1 hE
   obtain ⟨bG,hr⟩:∃ r,cG (gi s_ br)=r:=⟨_,rfl⟩
   replace hm:=hm bG hr
   rw [hr] at hp
   clear hr
   subst hp
   refine g8 ?_
   refine aF hS (b:=bG) kr (fun hb=>?_) fun hb=>?_
   ·replace hm:=hm.1 hb
    refine rPe T hS [0,1,5,7,8,16] [(4,I br)] fun a hS=>?_
    refine aZ ?_
    exact gF T hS hO (fun c h=>bS kr h) (fun c h=>bT (l:=[]) h) (bN []) rfl (r:=[.int .i64 br]) kr (fun X' hM hC=>⟨br,hm,rfl⟩)
   replace hm:=hm.2 hb
   refine aL ?_
   refine region (ePe T hS [5,16] [(8,I (wR (br+1)))] fun a hS=>?_)
   exact ⟨wR (br+1),⟨Z,_,hm.1,hS.sl _,hO,h101⟩,hm.2⟩
  replace hm:=hm.2 hb
  refine cl (by rfl) ?_
  exact ⟨Z,_,hm,hS.sl _,hO⟩
 rintro a tS ⟨Z,DB,hm,hS,hO⟩
 unfold VC83_52_J1 at hm
 refine rPe T hS [] [(4,I (-1))] fun a hS=>?_
 refine aZ ?_
 exact gF T hS hO (fun c h=>bS kr h) (fun c h=>bT (l:=[]) h) (bN []) rfl (r:=[.int .i64 (-1)]) kr (fun X' hM hC=>⟨(-1),hm,rfl⟩)
theorem C83_52 (Kc:S52) (v:∀ (s_:List al),lK s_->VC83_52 s_ (fun r=>r=ba s_)):S83_52:=by
 intro w X s_ a1 c1   hp h1 hA
 refine (W83_52 Kc w X s_ a1 c1   _ (v s_ hp) h1 hA).mono ?_
 rintro _ _ _ _ ⟨r,rfl,h⟩
 exact h
theorem W54_52 (wn:S83_52) (w0) (X0) (s_:List al) (a1) (c1) (Q:Bool->Prop) (hm:VC54_52 s_ Q) (h1:RS az w0 X0 a1 s_ c1) (hA:dH []) :
  Ret Tryz.prog 54 #[.slice a1 s_.length c1,.func (.func 52) #[] #[]] (pR []) w0 X0 (fun w X' v=>∃ r,Q r/\v=.bool r):=by
 unfold VC54_52 at hm
 replace hm:=hm (h1.sm kr)
 refine fB Tryz.func54 rfl (dx []) (fun id=>0) (args:=[Sl a1 s_ c1,.f (.func 52) [] []]) (bxs:=[]) kr rfl bm.nil (fm (fun q hq=>(hA.2 q.1 (List.mem_map.2 ⟨q,hq,rfl⟩)).1)) ?_
 intro a hS hO hM
 generalize (fun id:Nat=>0)=Z at hS
 replace h1:=h1.m0 hM
 refine rPe T hS [] [] fun a hS=>?_
 refine bn ?_
 refine oPe T hS 2 [0,1] [(5,Sl a1 s_ c1),(6,.f (.func 52) [] [])] fun a hS=>?_
 obtain ⟨hq,hm⟩:=hm
 refine op1 (lv hS kr kr hb83 kr (wn _ _ s_ a1 c1 hq h1 ⟨by decide,by decide⟩) ?_)
 intro v101 a fh fo hE hp hS
 replace hO:=hO.m2 hE
 replace h1:=h1.m1 hE
 obtain ⟨av,hr⟩:∃ r,ba s_=r:=⟨_,rfl⟩
 replace hm:=hm av hr
 rw [hr] at hp
 clear hr
 subst hp
 refine ePe T hS [5,6,7] [(4,B (decide (av≥0)))] fun a hS=>?_
 refine aZ ?_
 exact gF T hS hO (fun c h=>bS kr h) (fun c h=>bT (l:=[]) h) (bN []) rfl (r:=[.bool (decide (av≥0))]) kr (fun X' hM hC=>⟨(decide (av≥0)),hm,rfl⟩)
theorem C54_52 (wn:S83_52) (v:∀ (s_:List al),lK s_->VC54_52 s_ (fun r=>r=aW s_)):S54_52:=by
 intro w X s_ a1 c1   hp h1 hA
 refine (W54_52 wn w X s_ a1 c1   _ (v s_ hp) h1 hA).mono ?_
 rintro _ _ _ _ ⟨r,rfl,h⟩
 exact h
theorem W23 (AC:S47) (wB:S54_52) (Fb:S55) (w0) (X0) (h_:aj) (a1) (c1) (a2) (c2) (Q:Int × Int->Prop) (hm:VC23 h_ Q) (h1:RS az w0 X0 a1 h_.ae c1) (h2:RS aI w0 X0 a2 h_.ak c2) :
  Ret Tryz.prog 23 #[.agg #[.slice a1 h_.ae.length c1,.slice a2 h_.ak.length c2]] aJ w0 X0 (fun w X' v=>∃ r,Q r/\v=.tuple #[.int .i64 r.1,.int .i64 r.2]):=by
 unfold VC23 at hm
 replace hm:=hm (h1.sm kr)
 replace hm:=hm (h2.sm kr)
 refine enter Tryz.func23 rfl (vals:=[.agg #[.slice a1 h_.ae.length c1,.slice a2 h_.ak.length c2]]) kr ?_
 intro Z a hS hO hM
 replace h1:=h1.m0 hM
 replace h2:=h2.m0 hM
 refine rM T hS ⟨[(1,Pt 2 0)],[(2,(25,[Sl a1 h_.ae c1,Sl a2 h_.ak c2]))]⟩ fun Z a GG F1 hS hE hr=>?_
 replace hO:=hO.m2 hE
 replace h1:=h1.m1 hE
 replace h2:=h2.m1 hE
 clear hE hr
 refine rPe T hS [] [(4,.f (.func 52) [] [])] fun a hS=>?_
 refine bd ?_
 refine b5 (fun a w=>∃ (Z:Nat->Nat) (X:Nat->Nat) (bv:Bool),VC23_J1 h_ Q bv/\St Tryz.f23.ntmps ⟨[(1,Pt 2 0),(25,B bv)],[(2,(25,[Sl a1 h_.ae c1,Sl a2 h_.ak c2]))]⟩ Z a w X/\Old w0 X0 w X/\RS az w X a1 h_.ae c1/\RS aI w X a2 h_.ak c2) ?_ ?_
 ·refine region ?_
  refine oPe T hS 11 [] [(20,B ((decide ((lN h_.ae) < 1)) || (decide ((lN h_.ae) > 8))))] (sp:=[14]) fun a hS=>?_
  rcases bft ((decide ((lN h_.ae) < 1)) || (decide ((lN h_.ae) > 8))) with hb | hb
  ·replace hS:=hS.lit (t:=20) kr hb
   replace hm:=hm.1 hb
   refine ePe T hS [4,20] [(25,B true)] fun a hS=>?_
   exact ⟨Z,_,true,hm,hS.sl _,hO,h1,h2⟩
  replace hS:=hS.lit (t:=20) kr hb
  replace hm:=hm.2 hb
  refine oPe T hS 3 [4] [(22,Sl a1 h_.ae c1),(23,.f (.func 52) [] [])] fun a hS=>?_
  obtain ⟨hq,hm⟩:=hm
  refine op1 (lv hS kr kr hb54 kr (wB _ _ h_.ae a1 c1 hq h1 ⟨by decide,by decide⟩) ?_)
  intro v160 a GH LR hE hp hS
  replace hO:=hO.m2 hE
  replace h1:=h1.m1 hE
  replace h2:=h2.m1 hE
  obtain ⟨yT,hr⟩:∃ r,aW h_.ae=r:=⟨_,rfl⟩
  replace hm:=hm yT hr
  rw [hr] at hp
  clear hr
  subst hp
  refine ePe T hS [20,22,23,24] [(25,B yT)] fun a hS=>?_
  exact ⟨Z,_,yT,hm,hS.sl _,hO,h1,h2⟩
 rintro a Cq ⟨Z,F2,bv,hm,hS,hO,h102,h103⟩
 unfold VC23_J1 at hm
 refine aF hS (b:=bv) kr (fun hb=>?_) fun hb=>?_
 ·replace hm:=hm.1 hb
  refine rP T hS ⟨[(2,I (-1)),(3,I 2)],[]⟩ fun a hS=>?_
  refine aZ ?_
  exact fin T hS hO (fun c=>c) rfl (r:=[.int .i64 (-1),.int .i64 2]) kr (fun X' hM hC=>⟨((-1),2),hm,rfl⟩)
 replace hm:=hm.2 hb
 refine aL (bd ?_)
 refine bn ?_
 refine oPe T hS 1 [25] [(27,V (.agg #[.slice a1 h_.ae.length c1,.slice a2 h_.ak.length c2]))] fun a hS=>?_
 obtain ⟨hq,hm⟩:=hm
 refine op1 (call hS kr kr hb47 kr (fun _ _=>rfl) (AC _ _ (⟨h_.ae,h_.ak⟩:aj) a1 c1 a2 c2 hq h102 h103) ?_)
 intro v104 a mH lB hE hp hS
 replace hO:=hO.m2 hE
 replace h102:=h102.m1 hE
 replace h103:=h103.m1 hE
 obtain ⟨iC,iB,hp,h110⟩:=hp
 obtain ⟨mL,hr⟩:∃ r,bk (⟨h_.ae,h_.ak⟩:aj)=r:=⟨_,rfl⟩
 replace hm:=hm mL hr
 rw [hr] at hp h110
 clear hr
 subst hp
 replace hm:=hm (h110.sm kr)
 refine op1 (call hS kr kr hb55 kr (fun _ _=>rfl) (Fb _ _ mL iC iB h110) ?_)
 intro v111 a Ag vA hE hp hS
 replace hO:=hO.m2 hE
 replace h102:=h102.m1 hE
 replace h103:=h103.m1 hE
 replace h110:=h110.m1 hE
 obtain ⟨dp,hr⟩:∃ r,bw mL=r:=⟨_,rfl⟩
 replace hm:=hm dp hr
 rw [hr] at hp
 clear hr
 subst hp
 refine ePe T hS [27,28,29] [(5,I dp.1),(6,I dp.2)] fun a hS=>?_
 refine rPe T hS [] [(33,B (dp.2 != 0))] fun a hS=>?_
 refine aF hS (b:=(dp.2 != 0)) kr (fun hb=>?_) fun hb=>?_
 ·replace hm:=hm.1 hb
  refine rP T hS ⟨[(2,I dp.1),(3,I dp.2)],[]⟩ fun a hS=>?_
  refine aZ ?_
  exact fin T hS hO (fun c=>c) rfl (r:=[.int .i64 dp.1,.int .i64 dp.2]) kr (fun X' hM hC=>⟨(dp.1,dp.2),hm,rfl⟩)
 replace hm:=hm.2 hb
 refine aL ?_
 refine bn ?_
 refine op1 (oR kI tI false 1037 hS kr kr ?_)
 intro cU a tS wZ hE h118 hS
 replace hO:=hO.m2 hE
 replace h102:=h102.m1 hE
 replace h103:=h103.m1 hE
 refine ePe T hS [5,6,33,36] [(7,V (.map (some cU)))] fun a hS=>?_
 refine b5 (fun a w=>∃ Z X,VC23_J2 h_ Q/\St Tryz.f23.ntmps ⟨[(1,Pt 2 0)],[(2,(25,[Sl a1 h_.ae c1,Sl a2 h_.ak c2]))]⟩ Z a w X/\Old w0 X0 w X/\RS az w X a1 h_.ae c1/\RS aI w X a2 h_.ak c2) ?_ ?_
 ·refine rPe T hS [] [(38,Sl a2 h_.ak c2),(39,I (lN h_.ak)),(40,I 0)] fun a hS=>?_
  refine aN ?_
  obtain ⟨I1,μ1,cy,hm⟩:=hm
  refine cw (σ:=(List (Int × Int)) × Int) (fun s a w=>∃ Z X,I1 s.1 s.2/\St Tryz.f23.ntmps ⟨[(1,Pt 2 0),(7,V (.map (some cU))),(38,Sl a2 h_.ak c2),(39,I (lN h_.ak)),(40,I s.2)],[(2,(25,[Sl a1 h_.ae c1,Sl a2 h_.ak c2]))]⟩ Z a w X/\Old w0 X0 w X/\OM kI tI false w X 1037 cU s.1/\RS aI w X a2 h_.ak c2/\RS az w X a1 h_.ae c1/\RS aI w X a2 h_.ak c2) (fun s=>μ1 s.1 s.2) (⟨([]:List (Int × Int)),0⟩) ?_ ?_
  ·exact ⟨Z,_,cy,hS.sl _,hO,h118,h103,h102,h103⟩
  rintro ⟨ig,dA⟩ a yA ⟨Z,BW,hI,hS,hO,h122,h123,h125,h126⟩
  replace hm:=hm ig dA hI
  clear hI cy
  refine rPe T hS [] [(41,B (decide (dA < (lN h_.ak))))] fun a hS=>?_
  refine bd ?_
  refine aF hS (b:=decide (dA < (lN h_.ak))) kr (fun hb=>?_) fun hb=>?_
  ·replace hm:=hm.1 hb
   refine aL (bd ?_)
   refine aN ?_
   refine bn ?_
   refine oPe T hS 1 [41] [(42,I dA)] fun a hS=>?_
   obtain ⟨hq,hm⟩:=hm
   refine op1 (index (e:=63) (k:=.i64) T hS kr kr kr kr h123 kr kr hq.1 hq.2 ?_)
   intro L6 a h128 hS
   refine op1 (eB T hS kr kr kr h128 kr kr ?_)
   intro v129 a hv hS
   subst hv
   refine eM T hS ⟨[(1,Pt 2 0),(7,V (.map (some cU))),(8,I dA),(9,Pt 10 0),(38,Sl a2 h_.ak c2),(39,I (lN h_.ak)),(40,I dA)],[(2,(25,[Sl a1 h_.ae c1,Sl a2 h_.ak c2])),(10,(63,[I ((gi h_.ak dA).aw),I (((gi h_.ak dA).aK).bh),I (((gi h_.ak dA).aK).ah),I (((gi h_.ak dA).aK).N)]))]⟩ fun Z a sf wT hS hE hr=>?_
   replace hO:=hO.m2 hE
   replace h122:=h122.m2 hE
   replace h123:=h123.m1 hE
   replace h125:=h125.m1 hE
   replace h126:=h126.m1 hE
   clear hE hr
   refine bd ?_
   refine aN ?_
   refine rPe T hS [] [(45,B ((decide (((gi h_.ak dA).aw) < 0)) || (decide (((gi h_.ak dA).aw)≥(lN h_.ae)))))] (sp:=[49]) fun a hS=>?_
   refine aF hS (b:=((decide (((gi h_.ak dA).aw) < 0)) || (decide (((gi h_.ak dA).aw)≥(lN h_.ae))))) kr (fun hb=>?_) fun hb=>?_
   ·replace hm:=hm.1 hb
    refine rP T hS ⟨[(2,I dA),(3,I 2)],[]⟩ fun a hS=>?_
    refine aZ ?_
    exact fin T hS hO (fun c=>c) rfl (r:=[.int .i64 dA,.int .i64 2]) kr (fun X' hM hC=>⟨(dA,2),hm,rfl⟩)
   replace hm:=hm.2 hb
   refine b5 (fun a w=>∃ (Z:Nat->Nat) (X:Nat->Nat) (gy:Bool),VC23_J3 h_ Q I1 μ1 ig dA gy/\St Tryz.f23.ntmps ⟨[(1,Pt 2 0),(7,V (.map (some cU))),(8,I dA),(9,Pt 10 0),(38,Sl a2 h_.ak c2),(39,I (lN h_.ak)),(40,I dA),(58,B gy)],[(2,(25,[Sl a1 h_.ae c1,Sl a2 h_.ak c2])),(10,(63,[I ((gi h_.ak dA).aw),I (((gi h_.ak dA).aK).bh),I (((gi h_.ak dA).aK).ah),I (((gi h_.ak dA).aK).N)]))]⟩ Z a w X/\Old w0 X0 w X/\OM kI tI false w X 1037 cU ig/\RS aI w X a2 h_.ak c2/\RS az w X a1 h_.ae c1/\RS aI w X a2 h_.ak c2) ?_ ?_
   ·refine region ?_
    refine oPe T hS 5 [45] [(63,B ((((gi h_.ak dA).aK).bh) == 2))] fun a hS=>?_
    rcases bft ((((gi h_.ak dA).aK).bh) == 2) with hb | hb
    ·replace hS:=hS.lit (t:=63) kr hb
     replace hm:=hm.1 hb
     refine oPe T hS 4 [] [(64,V (.map (some cU))),(67,I (((gi h_.ak dA).aK).ah))] fun a hS=>?_
     refine op1 (jB kI tI false (zv:=.int .i64 0) (z:=0) (((gi h_.ak dA).aK).ah) hS kr kr kr kr Tryz.underlying113 Tryz.underlying3 kr rfl h122 ?_)
     intro v151 a hv hS
     replace hv:tI.R _ _ [v151] _:=hv
     cases hv
     refine ePe T hS [63,64,67,68] [(58,B (((aC ig (((gi h_.ak dA).aK).ah)).getD 0) != ((gi h_.ak dA).aw)))] fun a hS=>?_
     exact ⟨Z,_,(((aC ig (((gi h_.ak dA).aK).ah)).getD 0) != ((gi h_.ak dA).aw)),hm,hS.sl _,hO,h122,h123,h125,h126⟩
    replace hS:=hS.lit (t:=63) kr hb
    replace hm:=hm.2 hb
    refine ePe T hS [63] [(58,B false)] fun a hS=>?_
    exact ⟨Z,_,false,hm,hS.sl _,hO,h122,h123,h125,h126⟩
   rintro a Ad ⟨Z,wU,gy,hm,hS,hO,h130,h131,h133,h134⟩
   unfold VC23_J3 at hm
   refine aF hS (b:=gy) kr (fun hb=>?_) fun hb=>?_
   ·replace hm:=hm.1 hb
    refine rP T hS ⟨[(2,I dA),(3,I 32)],[]⟩ fun a hS=>?_
    refine aZ ?_
    exact fin T hS hO (fun c=>c) rfl (r:=[.int .i64 dA,.int .i64 32]) kr (fun X' hM hC=>⟨(dA,32),hm,rfl⟩)
   replace hm:=hm.2 hb
   refine b5 (fun a w=>∃ (Z:Nat->Nat) (X:Nat->Nat) (Cn:Bool),VC23_J4 h_ Q I1 μ1 ig dA Cn/\St Tryz.f23.ntmps ⟨[(1,Pt 2 0),(7,V (.map (some cU))),(8,I dA),(9,Pt 10 0),(38,Sl a2 h_.ak c2),(39,I (lN h_.ak)),(40,I dA),(74,B Cn)],[(2,(25,[Sl a1 h_.ae c1,Sl a2 h_.ak c2])),(10,(63,[I ((gi h_.ak dA).aw),I (((gi h_.ak dA).aK).bh),I (((gi h_.ak dA).aK).ah),I (((gi h_.ak dA).aK).N)]))]⟩ Z a w X/\Old w0 X0 w X/\OM kI tI false w X 1037 cU ig/\RS aI w X a2 h_.ak c2/\RS az w X a1 h_.ae c1/\RS aI w X a2 h_.ak c2) ?_ ?_
   ·refine gH [2,10] mixed hS ?_
    intro qY ra hS hE hD hH
    replace hO:=hO.m2 hE
    replace h130:=h130.m2 hE
    replace h131:=h131.m1 hE
    replace h133:=h133.m1 hE
    replace h134:=h134.m1 hE
    refine tke T [0,1,2,3,4] [2,10] hS hH #[true,true,true,true,true,false,false,false,false,false,false,false,false,false,false,false,false,false] 13 [] [(79,B ((((gi h_.ak dA).aK).bh) == 1))] fun a hS=>?_
    rcases bft ((((gi h_.ak dA).aK).bh) == 1) with hb | hb
    ·replace hS:=hS.lit (t:=79) kr hb
     replace hm:=hm.1 hb
     refine tke T [5,8,10,6,9,11,7] [2,10] hS hH #[true,true,true,true,true,true,true,true,true,true,true,true,false,false,false,false,false,false] 6 [] [(82,I (((gi h_.ak dA).aK).N)),(84,Sl a1 h_.ae c1),(86,I ((gi h_.ak dA).aw))] fun a hS=>?_
     obtain ⟨hq,hm⟩:=hm
     refine c6 (e:=48) (k:=.i64) T 12 hS kr kr kr (by rfl) kr hH kr kr h133 kr kr hq.1 hq.2 ?_
     intro QH a h145 hS
     have HF:=h145.here
     refine dh (off:=1) (fsz:=1) (ft:=3) (TF:=tI) (y:=(gi h_.ae ((gi h_.ak dA).aw)).ax) 13 T hS kr kr kr (by rfl) kr hH kr h145 kr kr kr (fun cs h=>mE h) ?_
     intro QG a h147 fv hS
     have Em:=HF
     rw [← fv] at Em
     clear fv
     refine dF T 14 hS kr kr kr (by rfl) kr hH kr h147 Em rfl kr ?_
     intro v148 a hv hS
     cases hv
     refine tke T [15,16,17] [2,10] hS hH (tts 18) 0 [79,82,84,86,87,88,89] [(74,B (decide ((((gi h_.ak dA).aK).N)≥((gi h_.ae ((gi h_.ak dA).aw)).ax))))] fun a hS=>?_
     refine aV kr ?_
     replace hS:=hS.sle [] []
     exact ⟨Z,_,decide ((((gi h_.ak dA).aK).N)≥((gi h_.ae ((gi h_.ak dA).aw)).ax)),hm,hS.sl _,hO,h130,h131,h133,h134⟩
    replace hS:=hS.lit (t:=79) kr hb
    replace hm:=hm.2 hb
    refine tke T [5,8,10,6,9,11,7,12,13,14,15,16,17] [2,10] hS hH (tts 18) 0 [79] [(74,B false)] fun a hS=>?_
    refine aV kr ?_
    replace hS:=hS.sle [] []
    exact ⟨Z,_,false,hm,hS.sl _,hO,h130,h131,h133,h134⟩
   rintro a Ct ⟨Z,zU,Cn,hm,hS,hO,h135,h136,h138,h139⟩
   unfold VC23_J4 at hm
   refine aF hS (b:=Cn) kr (fun hb=>?_) fun hb=>?_
   ·replace hm:=hm.1 hb
    refine rP T hS ⟨[(2,I dA),(3,I 31)],[]⟩ fun a hS=>?_
    refine aZ ?_
    exact fin T hS hO (fun c=>c) rfl (r:=[.int .i64 dA,.int .i64 31]) kr (fun X' hM hC=>⟨(dA,31),hm,rfl⟩)
   replace hm:=hm.2 hb
   refine aL ?_
   refine region ?_
   refine oP T hS 6 ⟨[(1,Pt 2 0),(7,V (.map (some cU))),(38,Sl a2 h_.ak c2),(39,I (lN h_.ak)),(40,I dA),(93,V (.map (some cU))),(96,I (((gi h_.ak dA).aK).ah)),(98,I ((gi h_.ak dA).aw))],[(2,(25,[Sl a1 h_.ae c1,Sl a2 h_.ak c2]))]⟩ fun a hS=>?_
   refine op1 (sZ kI tI false (v:=I ((gi h_.ak dA).aw)) (u:=(gi h_.ak dA).aw) (((gi h_.ak dA).aK).ah) hS kr kr kr kr Tryz.underlying113 Tryz.underlying3 kr h135 rfl ?_)
   intro a yB hE h141 hS
   clear h135
   replace hO:=hO.m2 hE
   replace h136:=h136.m1 hE
   replace h138:=h138.m1 hE
   replace h139:=h139.m1 hE
   refine g8 ?_
   refine region (ePe T hS [] [(40,I (wR (dA+1)))] fun a hS=>?_)
   exact ⟨⟨de ig (((gi h_.ak dA).aK).ah) ((gi h_.ak dA).aw),wR (dA+1)⟩,⟨Z,_,hm.1,hS.sl _,hO,h141,h136,h138,h139⟩,hm.2⟩
  replace hm:=hm.2 hb
  refine cl (by rfl) ?_
  exact ⟨Z,_,hm,hS.sl _,hO,h125,h126⟩
 rintro a yz ⟨Z,zT,hm,hS,hO,h119,h120⟩
 unfold VC23_J2 at hm
 refine rP T hS ⟨[(2,I (lN h_.ak)),(3,I 0)],[]⟩ fun a hS=>?_
 refine aZ ?_
 exact fin T hS hO (fun c=>c) rfl (r:=[.int .i64 (lN h_.ak),.int .i64 0]) kr (fun X' hM hC=>⟨((lN h_.ak),0),hm,rfl⟩)
theorem C23 (AC:S47) (wB:S54_52) (Fb:S55) (v:∀ (h_:aj),fV h_->VC23 h_ (fun r=>r=aA h_)):S23:=by
 intro w X h_ a1 c1 a2 c2   hp h1 h2
 refine (W23 AC wB Fb w X h_ a1 c1 a2 c2   _ (v h_ hp) h1 h2).mono ?_
 rintro _ _ _ _ ⟨r,rfl,h⟩
 exact h
theorem W45 (w0) (X0) (l_:List aH) (a1) (c1) (Q:(List au)->Prop) (hm:VC45 l_ Q) (h1:RS bJ w0 X0 a1 l_ c1) :
  Ret Tryz.prog 45 #[.slice a1 l_.length c1] aJ w0 X0 (fun w X' v=>∃ r,Q r/\∃ cB cA,v=.slice cB r.length cA/\RS aO w X' cB r cA):=by
 unfold VC45 at hm
 replace hm:=hm (h1.sm kr)
 refine enter Tryz.func45 rfl (vals:=[.slice a1 l_.length c1]) kr ?_
 intro Z a hS hO hM
 replace h1:=h1.m0 hM
 refine rPe T hS [] [] fun a hS=>?_
 refine rPe T hS [] [(3,V (.slice none 0 0))] fun a hS=>?_
 refine b5 (fun a w=>∃ (Z:Nat->Nat) (X:Nat->Nat) (bv:List au) (dk:Option Addr) (dj:Nat),VC45_J1 Q bv/\St Tryz.f45.ntmps ⟨[(3,Sl dk bv dj)],[]⟩ Z a w X/\Old w0 X0 w X/\OS aO 61 w X 1003 dk bv dj) ?_ ?_
 ·refine rPe T hS [] [(4,I 0)] fun a hS=>?_
  refine aN ?_
  obtain ⟨I1,μ1,cy,hm⟩:=hm
  refine cw (σ:=(List au) × Int) (fun s a w=>∃ Z X ci ce,I1 s.1 s.2/\St Tryz.f45.ntmps ⟨[(0,Sl a1 l_ c1),(3,Sl ci s.1 ce),(4,I s.2)],[]⟩ Z a w X/\Old w0 X0 w X/\RS bJ w X a1 l_ c1/\OS aO 61 w X 1003 ci s.1 ce) (fun s=>μ1 s.1 s.2) (⟨[],0⟩) ?_ ?_
  ·exact ⟨Z,_,none,0,cy,hS.sl _,hO,h1,(OS.nil _ _ _ _ _)⟩
  rintro ⟨dn,cM⟩ a q5 ⟨Z,qR,ci,ce,hI,hS,hO,h107,h111⟩
  replace hm:=hm dn cM hI
  clear hI cy
  refine bd ?_
  refine rPe T hS [] [(8,B (decide (cM < (lN l_))))] fun a hS=>?_
  refine aF hS (b:=decide (cM < (lN l_))) kr (fun hb=>?_) fun hb=>?_
  ·replace hm:=hm.1 hb
   refine aL (bd ?_)
   refine aN ?_
   refine region ?_
   refine oPe T hS 3 [8] [(11,Sl ci dn ce),(12,Sl a1 l_ c1),(13,I cM)] fun a hS=>?_
   obtain ⟨hq,hm⟩:=hm
   refine op1 (index (e:=77) (k:=.i64) T hS kr kr kr kr h107 kr kr hq.1 hq.2 ?_)
   intro Gf a h114 hS
   refine op1 (fc (off:=1) (fsz:=3) (ft:=61) (TF:=aO) (y:=(gi l_ cM).aK) T hS kr kr kr h114 kr kr kr (fun cs h=>jQ h) ?_)
   intro Ma a h116 hS
   refine op1 (eB T hS kr kr kr h116 kr kr ?_)
   intro v117 a hv hS
   subst hv
   refine op1 (lit (E:=61) (col:=0) (T:=aO) (vals:=[.agg #[.int .i64 (((gi l_ cM).aK).bh),.int .i64 (((gi l_ cM).aK).ah),.int .i64 (((gi l_ cM).aK).N)]]) (ys:=[(gi l_ cM).aK]) T hS kr kr kr kr (by exact ⟨rfl,trivial⟩) rfl kr kr kr kr ?_)
   intro b118 a vR B1 hE h121 hN hS
   clear hN
   replace hO:=hO.m2 hE
   replace h107:=h107.m1 hE
   replace h111:=h111.m2 hE
   replace h114:=h114.m1 hE
   replace h116:=h116.m1 hE
   replace h121:=h121.rs0
   obtain ⟨hq,hm⟩:=hm
   obtain ⟨news,hN⟩:=h121.src
   refine op1 (append (E:=61) (T:=aO) (col:=1003) (xs:=dn) T hS kr kr kr kr h111 hN kr kr kr kr hq ?_)
   intro iy io a tR tE hE h124 hS
   clear hq hN
   clear h111
   replace hO:=hO.m2 hE
   replace h107:=h107.m1 hE
   replace h114:=h114.m1 hE
   replace h116:=h116.m1 hE
   replace h121:=h121.m1 hE
   refine ePe T hS [12,13,14,15,16,17,18] [(3,Sl iy (dn++[(gi l_ cM).aK]) io)] fun a hS=>?_
   refine region (ePe T hS [] [(4,I (wR (cM+1)))] fun a hS=>?_)
   exact ⟨⟨dn++[(gi l_ cM).aK],wR (cM+1)⟩,⟨Z,_,iy,io,hm.1,hS.sl _,hO,h107,h124⟩,hm.2⟩
  replace hm:=hm.2 hb
  refine cl (by rfl) ?_
  exact ⟨Z,_,dn,ci,ce,hm,hS.sl _,hO,h111⟩
 rintro a tP ⟨Z,rb,bv,dk,dj,hm,hS,hO,h104⟩
 unfold VC45_J1 at hm
 refine rPe T hS [3] [(2,Sl dk bv dj)] fun a hS=>?_
 refine aZ ?_
 obtain ⟨oH,hE,hF⟩:=h104.freeze (by decide)
 replace hS:=hS.ev hE (cN kr)
 replace hO:=hO.m2 hE
 have h106:=hF; clear hE hF
 exact fin T hS hO (fun c=>c) rfl (r:=[.slice dk bv.length dj]) kr (fun X' hM hC=>⟨bv,hm,dk,dj,rfl,h106.m0 hM⟩)
theorem C45 (v:∀ (l_:List aH),ry l_->VC45 l_ (fun r=>r=cC l_)):S45:=by
 intro w X l_ a1 c1   hp h1
 refine (W45 w X l_ a1 c1   _ (v l_ hp) h1).mono ?_
 rintro _ _ _ _ ⟨r,rfl,h⟩
 exact h
theorem W59 (w0) (X0) (l_:List aH) (at_:Int) (a1) (c1) (Q:Int->Prop) (hm:VC59 l_ at_ Q) (h1:RS bJ w0 X0 a1 l_ c1) :
  Ret Tryz.prog 59 #[.slice a1 l_.length c1,.int .i64 at_] aJ w0 X0 (fun w X' v=>∃ r,Q r/\v=.int .i64 r):=by
 unfold VC59 at hm
 replace hm:=hm (h1.sm kr)
 refine enter Tryz.func59 rfl (vals:=[.slice a1 l_.length c1,.int .i64 at_]) kr ?_
 intro Z a hS hO hM
 replace h1:=h1.m0 hM
 refine rPe T hS [] [] fun a hS=>?_
 refine b5 (fun a w=>∃ Z X,VC59_J1 Q/\St Tryz.f59.ntmps ⟨[],[]⟩ Z a w X/\Old w0 X0 w X) ?_ ?_
 ·refine rPe T hS [] [(5,I (wR (at_ - 1)))] fun a hS=>?_
  refine aN ?_
  obtain ⟨I1,μ1,cy,hm⟩:=hm
  refine cw (σ:=Int) (fun s a w=>∃ Z X,I1 s/\St Tryz.f59.ntmps ⟨[(0,Sl a1 l_ c1),(1,I at_),(5,I s)],[]⟩ Z a w X/\Old w0 X0 w X/\RS bJ w X a1 l_ c1) (fun s=>μ1 s) (wR (at_ - 1)) ?_ ?_
  ·exact ⟨Z,_,cy,hS.sl _,hO,h1⟩
  rintro br a yE ⟨Z,wY,hI,hS,hO,h101⟩
  replace hm:=hm br hI
  clear hI cy
  refine bd ?_
  refine rPe T hS [] [(9,B (decide (br≥0)))] fun a hS=>?_
  refine aF hS (b:=decide (br≥0)) kr (fun hb=>?_) fun hb=>?_
  ·replace hm:=hm.1 hb
   refine aL (bd ?_)
   refine aN ?_
   refine dq [] mixed hS ?_
   intro Ju P3 hS hE hD hH
   replace hO:=hO.m2 hE
   replace h101:=h101.m1 hE
   refine tke T [0,1,6,7] [] hS hH #[true,true,false,false,false,false,true,true,false,false,false,false,false] 9 [] [(12,Sl a1 l_ c1),(13,I br),(18,Sl a1 l_ c1),(19,I at_)] fun a hS=>?_
   obtain ⟨hq,hm⟩:=hm
   refine c6 (e:=77) (k:=.i64) T 2 hS kr kr kr (by rfl) kr hH kr kr h101 kr kr hq.1 hq.2 ?_
   intro w9 a h106 hS
   have qw:=h106.here
   refine dh (off:=1) (fsz:=3) (ft:=61) (TF:=aO) (y:=(gi l_ br).aK) 3 T hS kr kr kr (by rfl) kr hH kr h106 kr kr kr (fun cs h=>jQ h) ?_
   intro Gh a h108 fv hS
   have ye:=qw
   rw [← fv] at ye
   clear fv
   refine dh (off:=1) (fsz:=1) (ft:=3) (TF:=tI) (y:=((gi l_ br).aK).ah) 4 T hS kr kr kr (by rfl) kr hH kr h108 kr kr kr (fun cs h=>gV h) ?_
   intro w8 a h110 fv hS
   have kM:=ye
   rw [← fv] at kM
   clear fv
   refine dF T 5 hS kr kr kr (by rfl) kr hH kr h110 kM rfl kr ?_
   intro v111 a hv hS
   cases hv
   obtain ⟨hq,hm⟩:=hm
   refine c6 (e:=77) (k:=.i64) T 8 hS kr kr kr (by rfl) kr hH kr kr h101 kr kr hq.1 hq.2 ?_
   intro Gg a h113 hS
   have uQ:=h113.here
   refine dh (off:=1) (fsz:=3) (ft:=61) (TF:=aO) (y:=(gi l_ at_).aK) 9 T hS kr kr kr (by rfl) kr hH kr h113 kr kr kr (fun cs h=>jQ h) ?_
   intro DD a h115 fv hS
   have qv:=uQ
   rw [← fv] at qv
   clear fv
   refine dh (off:=1) (fsz:=1) (ft:=3) (TF:=tI) (y:=((gi l_ at_).aK).ah) 10 T hS kr kr kr (by rfl) kr hH kr h115 kr kr kr (fun cs h=>gV h) ?_
   intro Ge a h117 fv hS
   have nJ:=qv
   rw [← fv] at nJ
   clear fv
   refine dF T 11 hS kr kr kr (by rfl) kr hH kr h117 nJ rfl kr ?_
   intro v118 a hv hS
   cases hv
   refine tke T [12] [] hS hH (tts 13) 0 [12,13,18,19,14,15,16,17,20,21,22,23] [(24,B ((((gi l_ br).aK).ah) == (((gi l_ at_).aK).ah)))] fun a hS=>?_
   refine aV kr ?_
   replace hS:=hS.sle [] []
   refine aF hS (b:=((((gi l_ br).aK).ah) == (((gi l_ at_).aK).ah))) kr (fun hb=>?_) fun hb=>?_
   ·replace hm:=hm.1 hb
    refine bn ?_
    refine oPe T hS 2 [0,1,5,24] [(25,Sl a1 l_ c1),(26,I br)] fun a hS=>?_
    obtain ⟨hq,hm⟩:=hm
    refine op1 (index (e:=77) (k:=.i64) T hS kr kr kr kr h101 kr kr hq.1 hq.2 ?_)
    intro L8 a h120 hS
    refine op1 (fc (off:=0) (fsz:=1) (ft:=3) (TF:=tI) (y:=(gi l_ br).aw) T hS kr kr kr h120 kr kr kr (fun cs h=>lW h) ?_)
    intro Gc a h122 hS
    refine op1 (eC T hS kr kr kr h122 rfl kr ?_)
    intro v123 a hv hS
    cases hv
    refine ePe T hS [25,26,27,28,29] [(4,I ((gi l_ br).aw))] fun a hS=>?_
    refine aZ ?_
    exact fin T hS hO (fun c=>c) rfl (r:=[.int .i64 ((gi l_ br).aw)]) kr (fun X' hM hC=>⟨((gi l_ br).aw),hm,rfl⟩)
   replace hm:=hm.2 hb
   refine aL ?_
   refine region (ePe T hS [24] [(5,I (wR (br - 1)))] fun a hS=>?_)
   exact ⟨wR (br - 1),⟨Z,_,hm.1,hS.sl _,hO,h101⟩,hm.2⟩
  replace hm:=hm.2 hb
  refine cl (by rfl) ?_
  exact ⟨Z,_,hm,hS.sl _,hO⟩
 rintro a si ⟨Z,wX,hm,hS,hO⟩
 unfold VC59_J1 at hm
 refine rPe T hS [] [(4,I (-1))] fun a hS=>?_
 refine aZ ?_
 exact fin T hS hO (fun c=>c) rfl (r:=[.int .i64 (-1)]) kr (fun X' hM hC=>⟨(-1),hm,rfl⟩)
theorem C59 (v:∀ (l_:List aH) (at_:Int),sM l_ at_->VC59 l_ at_ (fun r=>r=fp l_ at_)):S59:=by
 intro w X l_ at_ a1 c1   hp h1
 refine (W59 w X l_ at_ a1 c1   _ (v l_ at_ hp) h1).mono ?_
 rintro _ _ _ _ ⟨r,rfl,h⟩
 exact h
end Go.Proofs.YteahldlmkheleaaGreat
