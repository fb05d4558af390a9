/- Walks of the functions: each returns what its condition asks. -/
import Derived.Test.YteahldlmkheleaaGreatLWalksS
set_option linter.all false
namespace Go.Proofs.YteahldlmkheleaaGreat
open Go Go.Sv
abbrev zAe0 (i1 i2 i3:Nat):List (Nat × Nat):=[(i1,901),(i2,902),(i3,903)]
set_option maxHeartbeats 1000000
theorem W18 (GN:S50) (w0) (X0) (l_:List aw) (a1) (c1) (Q:(List ab) × Int->Prop) (hm:VC18 l_ Q) (h1:RS aR w0 X0 a1 l_ c1) :
  Ret Tryz.prog 18 #[.slice a1 l_.length c1] aL w0 X0 (fun w X' v=>∃ r,Q r/\∃ cz cy,v=.tuple #[.slice cz r.1.length cy,.int .i64 r.2]/\RS ar w X' cz r.1 cy):=by
 unfold VC18 at hm
 replace hm:=hm (h1.sm kr)
 refine enter Tryz.func18 rfl (vals:=[.slice a1 l_.length c1]) kr ?_
 intro Z a hS hO hM
 replace h1:=h1.m0 hM
 refine rPe T hS [] [] fun a hS=>?_
 refine bq ?_
 refine oPe T hS 1 [] [(11,Sl a1 l_ c1)] fun a hS=>?_
 refine op1 (call hS kr kr hb50 kr (fun _ _=>rfl) (GN _ _ l_ a1 c1 h1) ?_)
 intro v101 a fp fx hE hp hS
 replace hO:=hO.m2 hE
 replace h1:=h1.m1 hE
 obtain ⟨ax,hr⟩:∃ r,e6 l_=r:=⟨_,rfl⟩
 replace hm:=hm ax hr
 rw [hr] at hp
 clear hr
 subst hp
 refine ePe T hS [11,12] [(5,I ax.2)] fun a hS=>?_
 refine bg ?_
 refine rPe T hS [] [(16,B (ax.2 != 0))] fun a hS=>?_
 refine aJ hS (b:=(ax.2 != 0)) kr (fun hb=>?_) fun hb=>?_
 ·replace hm:=hm.1 hb
  refine rPe T hS [0,5,16] [(2,V (.slice none 0 0)),(3,I ax.2)] fun a hS=>?_
  refine aY ?_
  exact fin T hS hO (fun c=>c) rfl (r:=[.slice none 0 0,.int .i64 ax.2]) kr (fun X' hM hC=>⟨([],ax.2),hm,none,0,rfl,RS.empty _ _ _⟩)
 replace hm:=hm.2 hb
 refine aM ?_
 refine rPe T hS [5,16] [(6,V (.slice none 0 0))] fun a hS=>?_
 refine cb (fun a w=>∃ (Z:Nat->Nat) (X:Nat->Nat) (fY:List ab) (jn:Option Addr) (jl:Nat),VC18_J1 Q fY/\St Tryz.f18.ntmps ⟨[(6,Sl jn fY jl)],[]⟩ Z a w X/\Old w0 X0 w X/\OS ar 102 w X 1003 jn fY jl) ?_ ?_
 ·refine rPe T hS [] [(7,I 0)] fun a hS=>?_
  refine aN ?_
  obtain ⟨I1,μ1,cx,hm⟩:=hm
  refine ct (σ:=(List ab) × Int) (fun s a w=>∃ Z X jL jK,I1 s.1 s.2/\St Tryz.f18.ntmps ⟨[(0,Sl a1 l_ c1),(6,Sl jL s.1 jK),(7,I s.2)],[]⟩ Z a w X/\Old w0 X0 w X/\RS aR w X a1 l_ c1/\OS ar 102 w X 1003 jL s.1 jK) (fun s=>μ1 s.1 s.2) (⟨[],0⟩) ?_ ?_
  ·exact ⟨Z,_,none,0,cx,hS.sl _,hO,h1,(OS.nil _ _ _ _ _)⟩
  rintro ⟨db,a9⟩ a Py ⟨Z,NF,jL,jK,hI,hS,hO,h111,h115⟩
  replace hm:=hm db a9 hI
  clear hI cx
  refine bg ?_
  refine rPe T hS [] [(21,B (decide (a9 < (lN l_))))] fun a hS=>?_
  refine aJ hS (b:=decide (a9 < (lN l_))) kr (fun hb=>?_) fun hb=>?_
  ·replace hm:=hm.1 hb
   refine aM ?_
   refine cb (fun a w=>∃ (Z:Nat->Nat) (X:Nat->Nat) (jO:List ab) (rL:Option Addr) (rE:Nat),VC18_J2 I1 μ1 db a9 jO/\St Tryz.f18.ntmps ⟨[(0,Sl a1 l_ c1),(6,Sl rL jO rE),(7,I a9)],[]⟩ Z a w X/\Old w0 X0 w X/\RS aR w X a1 l_ c1/\OS ar 102 w X 1003 rL jO rE) ?_ ?_
   ·refine aN ?_
    refine bg ?_
    refine bq ?_
    refine oPe T hS 2 [21] [(24,Sl a1 l_ c1),(25,I a9)] fun a hS=>?_
    obtain ⟨hq,hm⟩:=hm
    refine op1 (index (e:=61) (k:=.i64) T hS kr kr kr kr h111 kr kr hq.1 hq.2 ?_)
    intro Du a h123 hS
    refine op1 (fw (off:=0) (fsz:=1) (ft:=3) (TF:=tI) (y:=(gi l_ a9).bo) T hS kr kr kr h123 kr kr kr (fun cs h=>lY h) ?_)
    intro E7 a h125 hS
    refine op1 (dW T hS kr kr kr h125 rfl kr ?_)
    intro v126 a hv hS
    cases hv
    refine ePe T hS [24,25,26,27,28] [(29,B (((gi l_ a9).bo) != 1))] fun a hS=>?_
    refine aJ hS (b:=(((gi l_ a9).bo) != 1)) kr (fun hb=>?_) fun hb=>?_
    ·replace hm:=hm.1 hb
     refine cm (by rfl) ?_
     exact ⟨Z,_,db,jL,jK,hm,hS.sl _,hO,h111,h115⟩
    replace hm:=hm.2 hb
    refine aM ?_
    refine dG [] mixed hS ?_
    intro uJ Dm hS hE hD hH
    replace hO:=hO.m2 hE
    replace h111:=h111.m1 hE
    replace h115:=h115.m2 hE
    refine tke T [0,1,5,6,10] [] hS hH #[true,true,false,false,false,true,true,false,false,false,true,false,false,false] 9 [] [(30,Sl a1 l_ c1),(31,I a9),(35,Sl a1 l_ c1),(36,I a9),(40,I a9)] fun a hS=>?_
    obtain ⟨hq,hm⟩:=hm
    refine dm (e:=61) (k:=.i64) T 2 hS kr kr kr (by rfl) kr hH kr kr h111 kr kr hq.1 hq.2 ?_
    intro N7 a h130 hS
    have Cx:=h130.here
    refine dE (off:=1) (fsz:=1) (ft:=3) (TF:=tI) (y:=(gi l_ a9).ak) 3 T hS kr kr kr (by rfl) kr hH kr h130 kr kr kr (fun cs h=>ig h) ?_
    intro HL a h132 fR hS
    have vI:=Cx
    rw [← fR] at vI
    clear fR
    refine eu T 4 hS kr kr kr (by rfl) kr hH kr h132 vI rfl kr ?_
    intro v133 a hv hS
    cases hv
    obtain ⟨hq,hm⟩:=hm
    refine dm (e:=61) (k:=.i64) T 7 hS kr kr kr (by rfl) kr hH kr kr h111 kr kr hq.1 hq.2 ?_
    intro SM a h135 hS
    have Jo:=h135.here
    refine dE (off:=2) (fsz:=1) (ft:=3) (TF:=tI) (y:=(gi l_ a9).N) 8 T hS kr kr kr (by rfl) kr hH kr h135 kr kr kr (fun cs h=>oN h) ?_
    intro E6 a h137 fR hS
    have sW:=Jo
    rw [← fR] at sW
    clear fR
    refine eu T 9 hS kr kr kr (by rfl) kr hH kr h137 sW rfl kr ?_
    intro v138 a hv hS
    cases hv
    refine tke T [11] [] hS hH #[true,true,true,true,true,true,true,true,true,true,true,true,false,false] 2 [30,31,35,36,40,32,33,34,37,38,39] [(41,V (.agg #[.int .i64 ((gi l_ a9).ak),.int .i64 ((gi l_ a9).N),.int .i64 a9,.int .i64 (-1),.int .i64 (-1)]))] fun a hS=>?_
    replace hS:=hS.sl ⟨[(0,Sl a1 l_ c1),(6,Sl jL db jK),(7,I a9),(41,V (.agg #[.int .i64 ((gi l_ a9).ak),.int .i64 ((gi l_ a9).N),.int .i64 a9,.int .i64 (-1),.int .i64 (-1)]))],[]⟩
    refine only 12 kr (by rfl) (Nm T hS kr kr kr (sy':=⟨[(8,Pt 9 0),(0,Sl a1 l_ c1),(6,Sl jL db jK),(7,I a9),(41,V (.agg #[.int .i64 ((gi l_ a9).ak),.int .i64 ((gi l_ a9).N),.int .i64 a9,.int .i64 (-1),.int .i64 (-1)]))],[(9,(102,[I 0,I 0,I 0,I 0,I 0]))]⟩) kr ?_)
    intro Z a tj wA hS hE Fl
    replace hO:=hO.m2 hE
    replace hD:=hD.ev hE rfl
    replace h111:=h111.m1 hE
    replace h115:=h115.m2 hE
    replace h130:=h130.m1 hE
    replace h132:=h132.m1 hE
    replace h135:=h135.m1 hE
    replace h137:=h137.m1 hE
    replace hS:=hS.sl ⟨[(0,Sl a1 l_ c1),(6,Sl jL db jK),(7,I a9),(41,V (.agg #[.int .i64 ((gi l_ a9).ak),.int .i64 ((gi l_ a9).N),.int .i64 a9,.int .i64 (-1),.int .i64 (-1)])),(8,Pt 9 0)],[(9,(102,[I 0,I 0,I 0,I 0,I 0]))]⟩
    refine di ((bP.of hS (bks:=[]) kr hD).rho Fl kr) ?_
    intro hH
    replace hS:=hS.sl ⟨[(0,Sl a1 l_ c1),(6,Sl jL db jK),(7,I a9),(41,V (.agg #[.int .i64 ((gi l_ a9).ak),.int .i64 ((gi l_ a9).N),.int .i64 a9,.int .i64 (-1),.int .i64 (-1)])),(8,Pt 9 0)],[(9,(102,[I 0,I 0,I 0,I 0,I 0]))]⟩
    refine only 13 kr (by rfl) (Bz T hS kr kr (sy':=⟨[(0,Sl a1 l_ c1),(6,Sl jL db jK),(7,I a9),(41,V (.agg #[.int .i64 ((gi l_ a9).ak),.int .i64 ((gi l_ a9).N),.int .i64 a9,.int .i64 (-1),.int .i64 (-1)])),(8,Pt 9 0)],[(9,(102,[I ((gi l_ a9).ak),I ((gi l_ a9).N),I a9,I (-1),I (-1)])),(9,(102,[I 0,I 0,I 0,I 0,I 0]))]⟩) kr ?_)
    intro a qn sa hS hE
    replace hO:=hO.m2 hE
    replace hD:=hD.ev hE rfl
    replace h111:=h111.m1 hE
    replace h115:=h115.m2 hE
    replace h130:=h130.m1 hE
    replace h132:=h132.m1 hE
    replace h135:=h135.m1 hE
    replace h137:=h137.m1 hE
    replace hS:=hS.sl ⟨[(0,Sl a1 l_ c1),(6,Sl jL db jK),(7,I a9),(41,V (.agg #[.int .i64 ((gi l_ a9).ak),.int .i64 ((gi l_ a9).N),.int .i64 a9,.int .i64 (-1),.int .i64 (-1)])),(8,Pt 9 0)],[(9,(102,[I ((gi l_ a9).ak),I ((gi l_ a9).N),I a9,I (-1),I (-1)]))]⟩
    refine di ((bP.of hS (bks:=[]) kr hD).rho Fl kr) ?_
    intro hH
    refine aX kr ?_
    replace hS:=hS.sle [41] []
    refine cb (fun a w=>∃ (Z:Nat->Nat) (X:Nat->Nat) (th:List ab) (mb:Int) (nX:Int) (gF:Int) (jA:Int) (nW:Int) (uy:Option Addr) (ur:Nat),VC18_J3 I1 μ1 db a9 th mb nX gF jA nW/\St Tryz.f18.ntmps ⟨[(0,Sl a1 l_ c1),(6,Sl uy th ur),(7,I a9),(8,Pt 9 0)],[(9,(102,[I mb,I nX,I gF,I jA,I nW]))]⟩ Z a w X/\Old w0 X0 w X/\RS aR w X a1 l_ c1/\OS ar 102 w X 1003 uy th ur) ?_ ?_
    ·refine rPe T hS [] [(9,I (wR (a9+1)))] fun a hS=>?_
     refine aN ?_
     obtain ⟨I2,μ2,cx,hm⟩:=hm
     refine ct (σ:=(List ab) × Int × Int × Int × Int × Int × Int) (fun s a w=>∃ Z X rJ rC,I2 s.1 s.2.1 s.2.2.1 s.2.2.2.1 s.2.2.2.2.1 s.2.2.2.2.2.1 s.2.2.2.2.2.2/\St Tryz.f18.ntmps ⟨[(0,Sl a1 l_ c1),(6,Sl rJ s.1 rC),(7,I a9),(8,Pt 9 0),(9,I s.2.1)],[(9,(102,[I s.2.2.1,I s.2.2.2.1,I s.2.2.2.2.1,I s.2.2.2.2.2.1,I s.2.2.2.2.2.2]))]⟩ Z a w X/\Old w0 X0 w X/\RS aR w X a1 l_ c1/\OS ar 102 w X 1003 rJ s.1 rC) (fun s=>μ2 s.1 s.2.1 s.2.2.1 s.2.2.2.1 s.2.2.2.2.1 s.2.2.2.2.2.1 s.2.2.2.2.2.2) (⟨db,wR (a9+1),(gi l_ a9).ak,(gi l_ a9).N,a9,(-1),(-1)⟩) ?_ ?_
     ·exact ⟨Z,_,jL,jK,cx,hS.sl _,hO,h111,h115⟩
     rintro ⟨wP,lj,mR,jz,wO,pT,Bf⟩ a H8 ⟨Z,J6,rJ,rC,hI,hS,hO,h163,h167⟩
     replace hm:=hm wP lj mR jz wO pT Bf hI
     clear hI cx
     refine bg ?_
     refine rPe T hS [] [(52,B ((decide (lj < (lN l_))) && (decide (pT < 0))))] (sp:=[48]) fun a hS=>?_
     refine aJ hS (b:=((decide (lj < (lN l_))) && (decide (pT < 0)))) kr (fun hb=>?_) fun hb=>?_
     ·replace hm:=hm.1 hb
      refine aM ?_
      refine cb (fun a w=>∃ (Z:Nat->Nat) (X:Nat->Nat) (ql:List ab) (fV:Int) (DK:Int) (uw:Option Addr) (uo:Nat),VC18_J4 I2 μ2 wP lj mR jz wO pT Bf ql fV DK/\St Tryz.f18.ntmps ⟨[(0,Sl a1 l_ c1),(6,Sl uw ql uo),(7,I a9),(8,Pt 9 0),(9,I lj)],[(9,(102,[I mR,I jz,I wO,I fV,I DK]))]⟩ Z a w X/\Old w0 X0 w X/\RS aR w X a1 l_ c1/\OS ar 102 w X 1003 uw ql uo) ?_ ?_
      ·refine aN ?_
       refine dG [9] mixed hS ?_
       intro K7 Kc hS hE hD hH
       replace hO:=hO.m2 hE
       replace h163:=h163.m1 hE
       replace h167:=h167.m2 hE
       refine tke T [0,1,5,6] [9] hS hH #[true,true,false,false,false,true,true,false,false,false,false] 7 [] [(55,Sl a1 l_ c1),(56,I lj),(60,Sl a1 l_ c1),(61,I a9)] fun a hS=>?_
       obtain ⟨hq,hm⟩:=hm
       refine dm (e:=61) (k:=.i64) T 2 hS kr kr kr (by rfl) kr hH kr kr h163 kr kr hq.1 hq.2 ?_
       intro Su a h184 hS
       have Jg:=h184.here
       refine dE (off:=1) (fsz:=1) (ft:=3) (TF:=tI) (y:=(gi l_ lj).ak) 3 T hS kr kr kr (by rfl) kr hH kr h184 kr kr kr (fun cs h=>ig h) ?_
       intro Sr a h186 fR hS
       have FU:=Jg
       rw [← fR] at FU
       clear fR
       refine eu T 4 hS kr kr kr (by rfl) kr hH kr h186 FU rfl kr ?_
       intro v187 a hv hS
       cases hv
       obtain ⟨hq,hm⟩:=hm
       refine dm (e:=61) (k:=.i64) T 7 hS kr kr kr (by rfl) kr hH kr kr h163 kr kr hq.1 hq.2 ?_
       intro So a h189 hS
       have Jf:=h189.here
       refine dE (off:=1) (fsz:=1) (ft:=3) (TF:=tI) (y:=(gi l_ a9).ak) 8 T hS kr kr kr (by rfl) kr hH kr h189 kr kr kr (fun cs h=>ig h) ?_
       intro Ko a h191 fR hS
       have FT:=Jf
       rw [← fR] at FT
       clear fR
       refine eu T 9 hS kr kr kr (by rfl) kr hH kr h191 FT rfl kr ?_
       intro v192 a hv hS
       cases hv
       refine tke T [10] [9] hS hH (tts 11) 0 [55,56,60,61,57,58,59,62,63,64] [(65,B (((gi l_ lj).ak) == ((gi l_ a9).ak)))] fun a hS=>?_
       refine aX kr ?_
       replace hS:=hS.sle [] []
       refine aJ hS (b:=(((gi l_ lj).ak) == ((gi l_ a9).ak))) kr (fun hb=>?_) fun hb=>?_
       ·replace hm:=hm.1 hb
        refine rM T hS ⟨[(0,Sl a1 l_ c1),(6,Sl rJ wP rC),(7,I a9),(8,Pt 9 0),(9,I lj)],[(9,(102,[I mR,I jz,I wO,I lj,I Bf]))]⟩ fun Z a K1 NK hS hE hr=>?_
        replace hO:=hO.m2 hE
        replace h163:=h163.m1 hE
        replace h167:=h167.m2 hE
        clear hE hr
        refine region ?_
        refine oPe T hS 2 [] [(68,Sl a1 l_ c1),(69,I lj)] fun a hS=>?_
        obtain ⟨hq,hm⟩:=hm
        refine op1 (index (e:=61) (k:=.i64) T hS kr kr kr kr h163 kr kr hq.1 hq.2 ?_)
        intro Si a h194 hS
        refine op1 (fw (off:=2) (fsz:=1) (ft:=3) (TF:=tI) (y:=(gi l_ lj).N) T hS kr kr kr h194 kr kr kr (fun cs h=>oN h) ?_)
        intro Sg a h196 hS
        refine op1 (dW T hS kr kr kr h196 rfl kr ?_)
        intro v197 a hv hS
        cases hv
        refine eM T hS ⟨[(0,Sl a1 l_ c1),(6,Sl rJ wP rC),(7,I a9),(8,Pt 9 0),(9,I lj)],[(9,(102,[I mR,I jz,I wO,I lj,I ((gi l_ lj).N)]))]⟩ fun Z a Ib J8 hS hE hr=>?_
        replace hO:=hO.m2 hE
        replace h163:=h163.m1 hE
        replace h167:=h167.m2 hE
        clear hE hr
        exact ⟨Z,_,wP,lj,(gi l_ lj).N,rJ,rC,hm,hS.sl _,hO,h163,h167⟩
       replace hm:=hm.2 hb
       refine aM ?_
       exact ⟨Z,_,wP,pT,Bf,rJ,rC,hm,hS.sl _,hO,h163,h167⟩
      rintro a H9 ⟨Z,NJ,ql,fV,DK,uw,uo,hm,hS,hO,h174,h178⟩
      unfold VC18_J4 at hm
      refine region (ePe T hS [] [(9,I (wR (lj+1)))] fun a hS=>?_)
      exact ⟨⟨ql,wR (lj+1),mR,jz,wO,fV,DK⟩,⟨Z,_,uw,uo,hm.1,hS.sl _,hO,h174,h178⟩,hm.2⟩
     replace hm:=hm.2 hb
     refine cm (by rfl) ?_
     exact ⟨Z,_,wP,mR,jz,wO,pT,Bf,rJ,rC,hm,hS.sl _,hO,h163,h167⟩
    rintro a H7 ⟨Z,Hx,th,mb,nX,gF,jA,nW,uy,ur,hm,hS,hO,h144,h148⟩
    unfold VC18_J3 at hm
    refine region ?_
    refine oP T hS 2 ⟨[(0,Sl a1 l_ c1),(6,Sl uy th ur),(7,I a9),(74,Sl uy th ur),(75,V (.agg #[.int .i64 mb,.int .i64 nX,.int .i64 gF,.int .i64 jA,.int .i64 nW]))],[]⟩ fun a hS=>?_
    refine op1 (lit (E:=102) (col:=0) (T:=ar) (vals:=[.agg #[.int .i64 mb,.int .i64 nX,.int .i64 gF,.int .i64 jA,.int .i64 nW]]) (ys:=[(⟨mb,nX,gF,jA,nW⟩:ab)]) T hS kr kr kr kr (by exact ⟨rfl,trivial⟩) rfl kr kr kr kr ?_)
    intro b154 a Gd Dj hE h157 hN hS
    clear hN
    replace hO:=hO.m2 hE
    replace h144:=h144.m1 hE
    replace h148:=h148.m2 hE
    replace h157:=h157.rs0
    obtain ⟨hq,hm⟩:=hm
    obtain ⟨news,hN⟩:=h157.src
    refine op1 (append (E:=102) (T:=ar) (col:=1003) (xs:=th) T hS kr kr kr kr h148 hN kr kr kr kr hq ?_)
    intro J3 JO a DR HC hE h160 hS
    clear hq hN
    clear h148
    replace hO:=hO.m2 hE
    replace h144:=h144.m1 hE
    replace h157:=h157.m1 hE
    refine ePe T hS [75,76,77] [(6,Sl J3 (th++[(⟨mb,nX,gF,jA,nW⟩:ab)]) JO)] fun a hS=>?_
    exact ⟨Z,_,th++[(⟨mb,nX,gF,jA,nW⟩:ab)],J3,JO,hm,hS.sl _,hO,h144,h160⟩
   rintro a H6 ⟨Z,NG,jO,rL,rE,hm,hS,hO,h117,h121⟩
   unfold VC18_J2 at hm
   refine region (ePe T hS [] [(7,I (wR (a9+1)))] fun a hS=>?_)
   exact ⟨⟨jO,wR (a9+1)⟩,⟨Z,_,rL,rE,hm.1,hS.sl _,hO,h117,h121⟩,hm.2⟩
  replace hm:=hm.2 hb
  refine cm (by rfl) ?_
  exact ⟨Z,_,db,jL,jK,hm,hS.sl _,hO,h115⟩
 rintro a KY ⟨Z,RP,fY,jn,jl,hm,hS,hO,h108⟩
 unfold VC18_J1 at hm
 refine rPe T hS [6] [(2,Sl jn fY jl),(3,I 0)] fun a hS=>?_
 refine aY ?_
 obtain ⟨Dq,hE,hF⟩:=h108.freeze (by decide)
 replace hS:=hS.ev hE (cA kr)
 replace hO:=hO.m2 hE
 have h110:=hF; clear hE hF
 exact fin T hS hO (fun c=>c) rfl (r:=[.slice jn fY.length jl,.int .i64 0]) kr (fun X' hM hC=>⟨(fY,0),hm,jn,jl,rfl,h110.m0 hM⟩)
theorem C18 (GN:S50) (v:∀ (l_:List aw),VC18 l_ (fun r=>r=iS l_)):S18:=by
 intro w X l_ a1 c1   h1
 refine (W18 GN w X l_ a1 c1   _ (v l_) h1).mono ?_
 rintro _ _ _ _ ⟨r,rfl,h⟩
 exact h
theorem W25 (w0) (X0) (a_:List Int) (b_:List Int) (a1) (c1) (a2) (c2) (Q:Bool->Prop) (hm:VC25 a_ b_ Q) (h1:RS tI w0 X0 a1 a_ c1) (h2:RS tI w0 X0 a2 b_ c2) :
  Ret Tryz.prog 25 #[.slice a1 a_.length c1,.slice a2 b_.length c2] aL w0 X0 (fun w X' v=>∃ r,Q r/\v=.bool r):=by
 unfold VC25 at hm
 replace hm:=hm (h1.sm kr)
 replace hm:=hm (h2.sm kr)
 refine enter Tryz.func25 rfl (vals:=[.slice a1 a_.length c1,.slice a2 b_.length c2]) kr ?_
 intro Z a hS hO hM
 replace h1:=h1.m0 hM
 replace h2:=h2.m0 hM
 refine rPe T hS [] [] fun a hS=>?_
 refine bg ?_
 refine rPe T hS [] [(10,B ((lN a_) != (lN b_)))] fun a hS=>?_
 refine aJ hS (b:=((lN a_) != (lN b_))) kr (fun hb=>?_) fun hb=>?_
 ·replace hm:=hm.1 hb
  refine rPe T hS [0,1,10] [(4,B false)] fun a hS=>?_
  refine aY ?_
  exact fin T hS hO (fun c=>c) rfl (r:=[.bool false]) kr (fun X' hM hC=>⟨false,hm,rfl⟩)
 replace hm:=hm.2 hb
 refine aM ?_
 refine cb (fun a w=>∃ Z X,VC25_J1 Q/\St Tryz.f25.ntmps ⟨[],[]⟩ Z a w X/\Old w0 X0 w X) ?_ ?_
 ·refine rPe T hS [10] [(5,I 0)] fun a hS=>?_
  refine aN ?_
  obtain ⟨I1,μ1,cx,hm⟩:=hm
  refine ct (σ:=Int) (fun s a w=>∃ Z X,I1 s/\St Tryz.f25.ntmps ⟨[(0,Sl a1 a_ c1),(1,Sl a2 b_ c2),(5,I s)],[]⟩ Z a w X/\Old w0 X0 w X/\RS tI w X a1 a_ c1/\RS tI w X a2 b_ c2) (fun s=>μ1 s) (0) ?_ ?_
  ·exact ⟨Z,_,cx,hS.sl _,hO,h1,h2⟩
  rintro bm a uM ⟨Z,uC,hI,hS,hO,h101,h102⟩
  replace hm:=hm bm hI
  clear hI cx
  refine bg ?_
  refine rPe T hS [] [(14,B (decide (bm < (lN a_))))] fun a hS=>?_
  refine aJ hS (b:=decide (bm < (lN a_))) kr (fun hb=>?_) fun hb=>?_
  ·replace hm:=hm.1 hb
   refine aM (bg ?_)
   refine aN ?_
   refine dG [] mixed hS ?_
   intro zL pt hS hE hD hH
   replace hO:=hO.m2 hE
   replace h101:=h101.m1 hE
   replace h102:=h102.m1 hE
   refine tke T [0,1,4,5] [] hS hH #[true,true,false,false,true,true,false,false,false] 5 [] [(17,Sl a1 a_ c1),(18,I bm),(21,Sl a2 b_ c2),(22,I bm)] fun a hS=>?_
   obtain ⟨hq,hm⟩:=hm
   refine dm (e:=3) (k:=.i64) T 2 hS kr kr kr (by rfl) kr hH kr kr h101 kr kr hq.1 hq.2 ?_
   intro Kv a h107 hS
   have CA:=h107.here
   refine eu T 3 hS kr kr kr (by rfl) kr hH kr h107 CA rfl kr ?_
   intro v108 a hv hS
   cases hv
   obtain ⟨hq,hm⟩:=hm
   refine dm (e:=3) (k:=.i64) T 6 hS kr kr kr (by rfl) kr hH kr kr h102 kr kr hq.1 hq.2 ?_
   intro A4 a h110 hS
   have mC:=h110.here
   refine eu T 7 hS kr kr kr (by rfl) kr hH kr h110 mC rfl kr ?_
   intro v111 a hv hS
   cases hv
   refine tke T [8] [] hS hH (tts 9) 0 [17,18,21,22,19,20,23,24] [(25,B ((gi a_ bm) != (gi b_ bm)))] fun a hS=>?_
   refine aX kr ?_
   replace hS:=hS.sle [] []
   refine aJ hS (b:=((gi a_ bm) != (gi b_ bm))) kr (fun hb=>?_) fun hb=>?_
   ·replace hm:=hm.1 hb
    refine rPe T hS [0,1,5,25] [(4,B false)] fun a hS=>?_
    refine aY ?_
    exact fin T hS hO (fun c=>c) rfl (r:=[.bool false]) kr (fun X' hM hC=>⟨false,hm,rfl⟩)
   replace hm:=hm.2 hb
   refine aM ?_
   refine region (ePe T hS [25] [(5,I (wR (bm+1)))] fun a hS=>?_)
   exact ⟨wR (bm+1),⟨Z,_,hm.1,hS.sl _,hO,h101,h102⟩,hm.2⟩
  replace hm:=hm.2 hb
  refine cm (by rfl) ?_
  exact ⟨Z,_,hm,hS.sl _,hO⟩
 rintro a pV ⟨Z,wC,hm,hS,hO⟩
 unfold VC25_J1 at hm
 refine rPe T hS [] [(4,B true)] fun a hS=>?_
 refine aY ?_
 exact fin T hS hO (fun c=>c) rfl (r:=[.bool true]) kr (fun X' hM hC=>⟨true,hm,rfl⟩)
theorem C25 (v:∀ (a_:List Int) (b_:List Int),VC25 a_ b_ (fun r=>r=e7 a_ b_)):S25:=by
 intro w X a_ b_ a1 c1 a2 c2   h1 h2
 refine (W25 w X a_ b_ a1 c1 a2 c2   _ (v a_ b_) h1 h2).mono ?_
 rintro _ _ _ _ ⟨r,rfl,h⟩
 exact h
theorem W92 (w0) (X0) (s_:List Int) (v_:Int) (a1) (c1) (Q:Int->Prop) (hm:VC92 s_ v_ Q) (h1:RS tI w0 X0 a1 s_ c1) :
  Ret Tryz.prog 92 #[.slice a1 s_.length c1,.int .i64 v_] aL w0 X0 (fun w X' v=>∃ r,Q r/\v=.int .i64 r):=by
 unfold VC92 at hm
 replace hm:=hm (h1.sm kr)
 refine enter Tryz.func92 rfl (vals:=[.slice a1 s_.length c1,.int .i64 v_]) kr ?_
 intro Z a hS hO hM
 replace h1:=h1.m0 hM
 refine rPe T hS [] [] fun a hS=>?_
 refine cb (fun a w=>∃ Z X,VC92_J1 Q/\St Tryz.f92.ntmps ⟨[],[]⟩ Z a w X/\Old w0 X0 w X) ?_ ?_
 ·refine rPe T hS [] [(7,I (lN s_)),(8,I 0)] fun a hS=>?_
  refine aN ?_
  obtain ⟨I1,μ1,cx,hm⟩:=hm
  refine ct (σ:=Int) (fun s a w=>∃ Z X,I1 s/\St Tryz.f92.ntmps ⟨[(0,Sl a1 s_ c1),(1,I v_),(7,I (lN s_)),(8,I s)],[]⟩ Z a w X/\Old w0 X0 w X/\RS tI w X a1 s_ c1) (fun s=>μ1 s) (0) ?_ ?_
  ·exact ⟨Z,_,cx,hS.sl _,hO,h1⟩
  rintro bC a rW ⟨Z,mi,hI,hS,hO,h101⟩
  replace hm:=hm bC hI
  clear hI cx
  refine rPe T hS [] [(9,B (decide (bC < (lN s_))))] fun a hS=>?_
  refine bg ?_
  refine aJ hS (b:=decide (bC < (lN s_))) kr (fun hb=>?_) fun hb=>?_
  ·replace hm:=hm.1 hb
   refine aM (bg ?_)
   refine aN ?_
   refine rPe T hS [9] [(5,I bC)] fun a hS=>?_
   refine bq ?_
   refine oPe T hS 3 [] [(11,I v_),(12,Sl a1 s_ c1),(13,I bC)] fun a hS=>?_
   obtain ⟨hq,hm⟩:=hm
   refine op1 (index (e:=3) (k:=.i64) T hS kr kr kr kr h101 kr kr hq.1 hq.2 ?_)
   intro uE a h104 hS
   refine op1 (dW T hS kr kr kr h104 rfl kr ?_)
   intro v105 a hv hS
   cases hv
   refine ePe T hS [11,12,13,14,15] [(16,B (v_ == (gi s_ bC)))] fun a hS=>?_
   refine aJ hS (b:=(v_ == (gi s_ bC))) kr (fun hb=>?_) fun hb=>?_
   ·replace hm:=hm.1 hb
    refine rPe T hS [0,1,5,7,8,16] [(4,I bC)] fun a hS=>?_
    refine aY ?_
    exact fin T hS hO (fun c=>c) rfl (r:=[.int .i64 bC]) kr (fun X' hM hC=>⟨bC,hm,rfl⟩)
   replace hm:=hm.2 hb
   refine aM ?_
   refine region (ePe T hS [5,16] [(8,I (wR (bC+1)))] fun a hS=>?_)
   exact ⟨wR (bC+1),⟨Z,_,hm.1,hS.sl _,hO,h101⟩,hm.2⟩
  replace hm:=hm.2 hb
  refine cm (by rfl) ?_
  exact ⟨Z,_,hm,hS.sl _,hO⟩
 rintro a qo ⟨Z,qa,hm,hS,hO⟩
 unfold VC92_J1 at hm
 refine rPe T hS [] [(4,I (-1))] fun a hS=>?_
 refine aY ?_
 exact fin T hS hO (fun c=>c) rfl (r:=[.int .i64 (-1)]) kr (fun X' hM hC=>⟨(-1),hm,rfl⟩)
theorem C92 (v:∀ (s_:List Int) (v_:Int),VC92 s_ v_ (fun r=>r=ew s_ v_)):S92:=by
 intro w X s_ v_ a1 c1   h1
 refine (W92 w X s_ v_ a1 c1   _ (v s_ v_) h1).mono ?_
 rintro _ _ _ _ ⟨r,rfl,h⟩
 exact h
theorem W77 (Lz:S92) (w0) (X0) (s_:List Int) (v_:Int) (a1) (c1) (Q:Bool->Prop) (hm:VC77 s_ v_ Q) (h1:RS tI w0 X0 a1 s_ c1) :
  Ret Tryz.prog 77 #[.slice a1 s_.length c1,.int .i64 v_] aL w0 X0 (fun w X' v=>∃ r,Q r/\v=.bool r):=by
 unfold VC77 at hm
 replace hm:=hm (h1.sm kr)
 refine enter Tryz.func77 rfl (vals:=[.slice a1 s_.length c1,.int .i64 v_]) kr ?_
 intro Z a hS hO hM
 replace h1:=h1.m0 hM
 refine rPe T hS [] [] fun a hS=>?_
 refine bq ?_
 refine oPe T hS 2 [0,1] [(5,Sl a1 s_ c1),(6,I v_)] fun a hS=>?_
 refine op1 (call hS kr kr hb92 kr (fun _ _=>rfl) (Lz _ _ s_ v_ a1 c1 h1) ?_)
 intro v101 a fp fx hE hp hS
 replace hO:=hO.m2 hE
 replace h1:=h1.m1 hE
 obtain ⟨ax,hr⟩:∃ r,ew s_ v_=r:=⟨_,rfl⟩
 replace hm:=hm ax hr
 rw [hr] at hp
 clear hr
 subst hp
 refine ePe T hS [5,6,7] [(4,B (decide (ax≥0)))] fun a hS=>?_
 refine aY ?_
 exact fin T hS hO (fun c=>c) rfl (r:=[.bool (decide (ax≥0))]) kr (fun X' hM hC=>⟨(decide (ax≥0)),hm,rfl⟩)
theorem C77 (Lz:S92) (v:∀ (s_:List Int) (v_:Int),VC77 s_ v_ (fun r=>r=cC s_ v_)):S77:=by
 intro w X s_ v_ a1 c1   h1
 refine (W77 Lz w X s_ v_ a1 c1   _ (v s_ v_) h1).mono ?_
 rintro _ _ _ _ ⟨r,rfl,h⟩
 exact h
theorem W49 (w0) (X0) (s_:List bb) (a1) (c1) (Q:(List bb)->Prop) (hm:VC49 s_ Q) (h1:RS aC w0 X0 a1 s_ c1) :
  Ret Tryz.prog 49 #[.slice a1 s_.length c1] aL w0 X0 (fun w X' v=>∃ r,Q r/\∃ cz cy,v=.slice cz r.length cy/\RS aC w X' cz r cy):=by
 unfold VC49 at hm
 replace hm:=hm (h1.sm kr)
 refine enter Tryz.func49 rfl (vals:=[.slice a1 s_.length c1]) kr ?_
 intro Z a hS hO hM
 replace h1:=h1.m0 hM
 refine rPe T hS [] [] fun a hS=>?_
 refine bg ?_
 refine bq ?_
 refine oPe T hS 1 [] [(3,Sl a1 s_ c1)] fun a hS=>?_
 obtain ⟨b101,hb102⟩:∃ q:Bool,a1.isNone=q:=⟨_,rfl⟩
 replace hm:=hm b101 (h1.IH hb102)
 refine op1 (F1 (e:=107) (m:=s_.length) (c:=c1) hS kr kr kr kr Tryz.underlying46 hb102 ?_)
 intro a hS
 clear hb102
 refine gY ?_
 refine aJ hS (b:=b101) kr (fun hb=>?_) fun hb=>?_
 ·replace hm:=hm.1 hb
  refine rPe T hS [0,4] [(2,V (.slice none 0 0))] fun a hS=>?_
  refine aY ?_
  exact fin T hS hO (fun c=>c) rfl (r:=[.slice none 0 0]) kr (fun X' hM hC=>⟨[],hm,none,0,rfl,RS.empty _ _ _⟩)
 replace hm:=hm.2 hb
 refine aM ?_
 refine bq ?_
 refine op1 (lit (E:=107) (col:=1003) (T:=aC) (vals:=[]) (ys:=([]:List bb)) T hS kr kr kr kr trivial rfl kr kr kr kr ?_)
 intro b103 a zL pt hE h106 hN hS
 clear hN
 replace hO:=hO.m2 hE
 replace h1:=h1.m1 hE
 refine oPe T hS 1 [0,4] [(6,Sl a1 s_ c1)] fun a hS=>?_
 obtain ⟨hq,hm⟩:=hm
 obtain ⟨news,hN⟩:=h1.src
 refine op1 (append (E:=107) (T:=aC) (col:=1003) (xs:=([]:List bb)) T hS kr kr kr kr h106 hN kr kr kr kr hq ?_)
 intro fg ff a rW qa hE h109 hS
 clear hq hN
 clear h106
 replace hO:=hO.m2 hE
 replace h1:=h1.m1 hE
 refine ePe T hS [6,7] [(2,Sl fg (([]:List bb)++s_) ff)] fun a hS=>?_
 refine aY ?_
 obtain ⟨uC,hE,hF⟩:=h109.freeze (by decide)
 replace hS:=hS.ev hE (cA kr)
 replace hO:=hO.m2 hE
 have h113:=hF; clear hE hF
 exact fin T hS hO (fun c=>c) rfl (r:=[.slice fg (([]:List bb)++s_).length ff]) kr (fun X' hM hC=>⟨(([]:List bb)++s_),hm,fg,ff,rfl,h113.m0 hM⟩)
theorem C49 (v:∀ (s_:List bb),yF s_->VC49 s_ (fun r=>r=de s_)):S49:=by
 intro w X s_ a1 c1   hp h1
 refine (W49 w X s_ a1 c1   _ (v s_ hp) h1).mono ?_
 rintro _ _ _ _ ⟨r,rfl,h⟩
 exact h
theorem W76 (w0) (X0) (p_:Int × Int) (n_:Int) (Q:Bool->Prop) (hm:VC76 p_ n_ Q) :
  Ret Tryz.prog 76 #[.agg #[.int .i64 p_.1,.int .i64 p_.2],.int .i64 n_] aL w0 X0 (fun w X' v=>∃ r,Q r/\v=.bool r):=by
 unfold VC76 at hm
 refine enter Tryz.func76 rfl (vals:=[.agg #[.int .i64 p_.1,.int .i64 p_.2],.int .i64 n_]) kr ?_
 intro Z a hS hO hM
 refine rM T hS ⟨[(1,I n_),(2,Pt 3 0)],[(3,(131,[I p_.1,I p_.2]))]⟩ fun Z a oO pw hS hE hr=>?_
 replace hO:=hO.m2 hE
 clear hE hr
 refine rP T hS ⟨[(4,B (((decide ((if p_.2 < p_.1 then p_.2 else p_.1)≥0)) && (decide ((if p_.2 > p_.1 then p_.2 else p_.1) < n_))) && (p_.1 != p_.2)))],[]⟩ (sp:=[11,20]) fun a hS=>?_
 refine aY ?_
 exact fin T hS hO (fun c=>c) rfl (r:=[.bool (((decide ((if p_.2 < p_.1 then p_.2 else p_.1)≥0)) && (decide ((if p_.2 > p_.1 then p_.2 else p_.1) < n_))) && (p_.1 != p_.2))]) kr (fun X' hM hC=>⟨(((decide ((if p_.2 < p_.1 then p_.2 else p_.1)≥0)) && (decide ((if p_.2 > p_.1 then p_.2 else p_.1) < n_))) && (p_.1 != p_.2)),hm,rfl⟩)
theorem C76 (v:∀ (p_:Int × Int) (n_:Int),VC76 p_ n_ (fun r=>r=ec p_ n_)):S76:=by
 intro w X p_ n_    
 refine (W76 w X p_ n_    _ (v p_ n_)).mono ?_
 rintro _ _ _ _ ⟨r,rfl,h⟩
 exact h
theorem W75 (LJ:S76) (GI:S77) (w0) (X0) (p_:Int × Int) (ao:Int) (ay:Int) (aO:List Int) (a1) (c1) (b1) (i1) (b2) (i2) (b3) (i3) (Q:Bool->Prop) (hm:VC75 p_ ao ay aO Q) (h1:RS tI w0 X0 a1 aO c1) (fB:Cell w0 X0 b1 i1 3 [.int .i64 ao]) (gO:Cell w0 X0 b2 i2 3 [.int .i64 ay]) (lR:Cell w0 X0 b3 i3 43 [.slice a1 aO.length c1]) (hA:dZ [i1,i2,i3]) :
  Ret Tryz.prog 75 #[.agg #[.int .i64 p_.1,.int .i64 p_.2],.pointer (some ⟨b1,0,none⟩),.pointer (some ⟨b2,0,none⟩),.pointer (some ⟨b3,0,none⟩)] (pR [i1,i2,i3]) w0 X0 (fun w X' v=>∃ r,Q r/\v=.bool r/\Cell w X' b1 i1 3 [.int .i64 ao]/\Cell w X' b2 i2 3 [.int .i64 ay]/\Cell w X' b3 i3 43 [.slice a1 aO.length c1]):=by
 unfold VC75 at hm
 replace hm:=hm (h1.sm kr)
 refine fO Tryz.func75 rfl (dL (zAe0 i1 i2 i3)) (fun id=>(bif Nat.beq id 901 then b1 else (bif Nat.beq id 902 then b2 else (bif Nat.beq id 903 then b3 else 0)))) (args:=[V (.agg #[.int .i64 p_.1,.int .i64 p_.2]),Pt 901 0,Pt 902 0,Pt 903 0]) (bxs:=[(901,(3,[I ao])),(902,(3,[I ay])),(903,(43,[Sl a1 aO c1]))]) kr rfl (bu.cons kr (fB.map (bQ 0 hA.1 rfl)) (bu.cons kr (gO.map (bQ 1 hA.1 rfl)) (bu.cons kr (lR.map (bQ 2 hA.1 rfl)) bu.nil))) (fD (fun q hq=>(hA.2 q.1 (List.mem_map.2 ⟨q,hq,rfl⟩)).1)) ?_
 intro a hS hO hM
 have hP:Pin [(901,b1),(902,b2),(903,b3)] (fun id=>(bif Nat.beq id 901 then b1 else (bif Nat.beq id 902 then b2 else (bif Nat.beq id 903 then b3 else 0)))):=by intro q hq; simp at hq; rcases hq with rfl | rfl | rfl <;> rfl
 generalize (fun id=>(bif Nat.beq id 901 then b1 else (bif Nat.beq id 902 then b2 else (bif Nat.beq id 903 then b3 else 0))))=Z at hS hP
 clear fB gO lR
 replace h1:=h1.m0 hM
 refine rM T hS ⟨[(1,Pt 901 0),(2,Pt 902 0),(3,Pt 903 0),(4,Pt 5 0)],[(5,(131,[I p_.1,I p_.2])),(901,(3,[I ao])),(902,(3,[I ay])),(903,(43,[Sl a1 aO c1]))]⟩ fun Z a qo sc hS hE hr=>?_
 replace hO:=hO.m2 hE
 replace h1:=h1.m1 hE
 replace hP:=hP.mv hr kr
 clear hE hr
 refine bq ?_
 refine oPe T hS 2 [1] [(6,V (.agg #[.int .i64 p_.1,.int .i64 p_.2])),(7,I ao)] fun a hS=>?_
 refine op1 (call hS kr kr hb76 kr (fun _ _=>rfl) (LJ _ _ (p_.1,p_.2) ao) ?_)
 intro v101 a fp fx hE hp hS
 replace hO:=hO.m2 hE
 replace h1:=h1.m1 hE
 obtain ⟨ax,hr⟩:∃ r,ec (p_.1,p_.2) ao=r:=⟨_,rfl⟩
 replace hm:=hm ax hr
 rw [hr] at hp
 clear hr
 subst hp
 refine oPe T hS 7 [2,6,7,8] [(15,B (ax && (p_.2 == ay)))] (sp:=[9]) fun a hS=>?_
 rcases bft (ax && (p_.2 == ay)) with hb | hb
 ·replace hS:=hS.lit (t:=15) kr hb
  replace hm:=hm.1 hb
  refine oP T hS 3 ⟨[(15,B true),(16,Sl a1 aO c1),(18,I p_.1)],[(901,(3,[I ao])),(902,(3,[I ay])),(903,(43,[Sl a1 aO c1]))]⟩ fun a hS=>?_
  refine op1 (call hS kr kr hb77 kr (fun _ _=>rfl) (GI _ _ aO p_.1 a1 c1 h1) ?_)
  intro v105 a ny m9 hE hp hS
  replace hO:=hO.m2 hE
  replace h1:=h1.m1 hE
  obtain ⟨ba,hr⟩:∃ r,cC aO p_.1=r:=⟨_,rfl⟩
  replace hm:=hm ba hr
  rw [hr] at hp
  clear hr
  subst hp
  refine ePe T hS [15,16,18,19] [(5,B (!ba))] fun a hS=>?_
  refine aY ?_
  exact gW T hS hO (fun c h=>b0 kr h) (fun c h=>b5 (l:=(zAe0 i1 i2 i3)) h) (bU (zAe0 i1 i2 i3)) rfl (r:=[.bool (!ba)]) kr (fun X' hM hC=>⟨(!ba),hm,rfl,((hS.cell (id:=901) (t:=3) (cs:=[I ao]) kr).out (f:=(bU (zAe0 i1 i2 i3))) hC kr kr (hP.at 0 rfl)),((hS.cell (id:=902) (t:=3) (cs:=[I ay]) kr).out (f:=(bU (zAe0 i1 i2 i3))) hC kr kr (hP.at 1 rfl)),((hS.cell (id:=903) (t:=43) (cs:=[Sl a1 aO c1]) kr).out (f:=(bU (zAe0 i1 i2 i3))) hC kr kr (hP.at 2 rfl))⟩)
 replace hS:=hS.lit (t:=15) kr hb
 replace hm:=hm.2 hb
 refine eP T hS ⟨[(5,B false)],[(901,(3,[I ao])),(902,(3,[I ay])),(903,(43,[Sl a1 aO c1]))]⟩ fun a hS=>?_
 refine aY ?_
 exact gW T hS hO (fun c h=>b0 kr h) (fun c h=>b5 (l:=(zAe0 i1 i2 i3)) h) (bU (zAe0 i1 i2 i3)) rfl (r:=[.bool false]) kr (fun X' hM hC=>⟨false,hm,rfl,((hS.cell (id:=901) (t:=3) (cs:=[I ao]) kr).out (f:=(bU (zAe0 i1 i2 i3))) hC kr kr (hP.at 0 rfl)),((hS.cell (id:=902) (t:=3) (cs:=[I ay]) kr).out (f:=(bU (zAe0 i1 i2 i3))) hC kr kr (hP.at 1 rfl)),((hS.cell (id:=903) (t:=43) (cs:=[Sl a1 aO c1]) kr).out (f:=(bU (zAe0 i1 i2 i3))) hC kr kr (hP.at 2 rfl))⟩)
theorem C75 (LJ:S76) (GI:S77) (v:∀ (p_:Int × Int) (ao:Int) (ay:Int) (aO:List Int),VC75 p_ ao ay aO (fun r=>r=cl p_ ao ay aO)):S75:=by
 intro w X p_ ao ay aO a1 c1  b1 i1 b2 i2 b3 i3 h1 fB gO lR hA
 refine (W75 LJ GI w X p_ ao ay aO a1 c1  b1 i1 b2 i2 b3 i3 _ (v p_ ao ay aO) h1 fB gO lR hA).mono ?_
 rintro _ _ _ _ ⟨r,rfl,h⟩
 exact h
theorem W93_75 (LK:S75) (w0) (X0) (s_:List (Int × Int)) (ao:Int) (ay:Int) (aO:List Int) (a1) (c1) (a2) (c2) (b1) (i1) (b2) (i2) (b3) (i3) (Q:Int->Prop) (hm:VC93_75 s_ ao ay aO Q) (h1:RS tP2 w0 X0 a1 s_ c1) (h2:RS tI w0 X0 a2 aO c2) (fB:Cell w0 X0 b1 i1 3 [.int .i64 ao]) (gO:Cell w0 X0 b2 i2 3 [.int .i64 ay]) (lR:Cell w0 X0 b3 i3 43 [.slice a2 aO.length c2]) (hA:dZ [i1,i2,i3]) :
  Ret Tryz.prog 93 #[.slice a1 s_.length c1,.func (.func 75) #[] #[.pointer (some ⟨b1,0,none⟩),.pointer (some ⟨b2,0,none⟩),.pointer (some ⟨b3,0,none⟩)]] (pR [i1,i2,i3]) w0 X0 (fun w X' v=>∃ r,Q r/\v=.int .i64 r/\Cell w X' b1 i1 3 [.int .i64 ao]/\Cell w X' b2 i2 3 [.int .i64 ay]/\Cell w X' b3 i3 43 [.slice a2 aO.length c2]):=by
 unfold VC93_75 at hm
 replace hm:=hm (h1.sm kr)
 replace hm:=hm (h2.sm kr)
 refine fO Tryz.func93 rfl (dL (zAe0 i1 i2 i3)) (fun id=>(bif Nat.beq id 901 then b1 else (bif Nat.beq id 902 then b2 else (bif Nat.beq id 903 then b3 else 0)))) (args:=[Sl a1 s_ c1,.f (.func 75) [] [.p 901 0,.p 902 0,.p 903 0]]) (bxs:=[(901,(3,[I ao])),(902,(3,[I ay])),(903,(43,[Sl a2 aO c2]))]) kr rfl (bu.cons kr (fB.map (bQ 0 hA.1 rfl)) (bu.cons kr (gO.map (bQ 1 hA.1 rfl)) (bu.cons kr (lR.map (bQ 2 hA.1 rfl)) bu.nil))) (fD (fun q hq=>(hA.2 q.1 (List.mem_map.2 ⟨q,hq,rfl⟩)).1)) ?_
 intro a hS hO hM
 have hP:Pin [(901,b1),(902,b2),(903,b3)] (fun id=>(bif Nat.beq id 901 then b1 else (bif Nat.beq id 902 then b2 else (bif Nat.beq id 903 then b3 else 0)))):=by intro q hq; simp at hq; rcases hq with rfl | rfl | rfl <;> rfl
 generalize (fun id=>(bif Nat.beq id 901 then b1 else (bif Nat.beq id 902 then b2 else (bif Nat.beq id 903 then b3 else 0))))=Z at hS hP
 clear fB gO lR
 replace h1:=h1.m0 hM
 replace h2:=h2.m0 hM
 refine rPe T hS [] [] fun a hS=>?_
 refine cb (fun a w=>∃ Z X,VC93_75_J1 Q/\St Tryz.f93.ntmps ⟨[],[(901,(3,[I ao])),(902,(3,[I ay])),(903,(43,[Sl a2 aO c2]))]⟩ Z a w X/\gj (dL (zAe0 i1 i2 i3)) w0 X0 w X/\Pin [(901,b1),(902,b2),(903,b3)] Z/\RS tI w X a2 aO c2) ?_ ?_
 ·refine rPe T hS [] [(7,I (lN s_)),(8,I 0)] fun a hS=>?_
  refine aN ?_
  obtain ⟨I1,μ1,cx,hm⟩:=hm
  refine ct (σ:=Int) (fun s a w=>∃ Z X,I1 s/\St Tryz.f93.ntmps ⟨[(0,Sl a1 s_ c1),(1,.f (.func 75) [] [.p 901 0,.p 902 0,.p 903 0]),(7,I (lN s_)),(8,I s)],[(901,(3,[I ao])),(902,(3,[I ay])),(903,(43,[Sl a2 aO c2]))]⟩ Z a w X/\gj (dL (zAe0 i1 i2 i3)) w0 X0 w X/\Pin [(901,b1),(902,b2),(903,b3)] Z/\RS tP2 w X a1 s_ c1/\RS tI w X a2 aO c2) (fun s=>μ1 s) (0) ?_ ?_
  ·exact ⟨Z,_,cx,hS.sl _,hO,hP,h1,h2⟩
  rintro bm a wT ⟨Z,HH,hI,hS,hO,hP,h102,h104⟩
  replace hm:=hm bm hI
  clear hI cx
  refine rPe T hS [] [(9,B (decide (bm < (lN s_))))] fun a hS=>?_
  refine bg ?_
  refine aJ hS (b:=decide (bm < (lN s_))) kr (fun hb=>?_) fun hb=>?_
  ·replace hm:=hm.1 hb
   refine aM (bg ?_)
   refine aN ?_
   refine rPe T hS [9] [(5,I bm)] fun a hS=>?_
   refine bq ?_
   refine oPe T hS 3 [] [(11,.f (.func 75) [] [.p 901 0,.p 902 0,.p 903 0]),(12,Sl a1 s_ c1),(13,I bm)] fun a hS=>?_
   obtain ⟨hq,hm⟩:=hm
   refine op1 (index (e:=131) (k:=.i64) T hS kr kr kr kr h102 kr kr hq.1 hq.2 ?_)
   intro ya a h106 hS
   refine op1 (eU T hS kr kr kr h106 kr kr ?_)
   intro v107 a hv hS
   subst hv
   refine op1 (kx (fi:=[]) (cp:=[.p 901 0,.p 902 0,.p 903 0]) hS kr kr hb75 kr kr (LK _ _ (gi s_ bm) ao ay aO a2 c2 (Z 901) 901 (Z 902) 902 (Z 903) 903 h104 (hS.cell (id:=901) (t:=3) (cs:=[I ao]) kr) (hS.cell (id:=902) (t:=3) (cs:=[I ay]) kr) (hS.cell (id:=903) (t:=43) (cs:=[Sl a2 aO c2]) kr) ⟨by decide,by decide⟩) ?_)
   intro v108 a qo sc hE hp hS
   replace hO:=hO.m2 hE
   replace h102:=h102.m1 hE
   replace h104:=h104.m1 hE
   replace h106:=h106.m1 hE
   obtain ⟨hp,FO,FN,FM⟩:=hp
   obtain ⟨df,hr⟩:∃ r,cl (gi s_ bm) ao ay aO=r:=⟨_,rfl⟩
   replace hm:=hm df hr
   rw [hr] at hp
   clear hr
   subst hp
   replace hS:=hS.cQ (id:=901) (t:=3) (cs:=[I ao]) kr FO
   replace hS:=hS.cQ (id:=902) (t:=3) (cs:=[I ay]) kr FN
   replace hS:=hS.cQ (id:=903) (t:=43) (cs:=[Sl a2 aO c2]) kr FM
   clear FO FN FM
   refine gY ?_
   refine aJ hS (b:=df) kr (fun hb=>?_) fun hb=>?_
   ·replace hm:=hm.1 hb
    refine rPe T hS [0,1,5,7,8,16] [(4,I bm)] fun a hS=>?_
    refine aY ?_
    exact gW T hS hO (fun c h=>b0 kr h) (fun c h=>b5 (l:=(zAe0 i1 i2 i3)) h) (bU (zAe0 i1 i2 i3)) rfl (r:=[.int .i64 bm]) kr (fun X' hM hC=>⟨bm,hm,rfl,((hS.cell (id:=901) (t:=3) (cs:=[I ao]) kr).out (f:=(bU (zAe0 i1 i2 i3))) hC kr kr (hP.at 0 rfl)),((hS.cell (id:=902) (t:=3) (cs:=[I ay]) kr).out (f:=(bU (zAe0 i1 i2 i3))) hC kr kr (hP.at 1 rfl)),((hS.cell (id:=903) (t:=43) (cs:=[Sl a2 aO c2]) kr).out (f:=(bU (zAe0 i1 i2 i3))) hC kr kr (hP.at 2 rfl))⟩)
   replace hm:=hm.2 hb
   refine aM ?_
   refine region (ePe T hS [5,16] [(8,I (wR (bm+1)))] fun a hS=>?_)
   exact ⟨wR (bm+1),⟨Z,_,hm.1,hS.sl _,hO,hP,h102,h104⟩,hm.2⟩
  replace hm:=hm.2 hb
  refine cm (by rfl) ?_
  exact ⟨Z,_,hm,hS.sl _,hO,hP,h104⟩
 rintro a Br ⟨Z,A1,hm,hS,hO,hP,h101⟩
 unfold VC93_75_J1 at hm
 refine rPe T hS [] [(4,I (-1))] fun a hS=>?_
 refine aY ?_
 exact gW T hS hO (fun c h=>b0 kr h) (fun c h=>b5 (l:=(zAe0 i1 i2 i3)) h) (bU (zAe0 i1 i2 i3)) rfl (r:=[.int .i64 (-1)]) kr (fun X' hM hC=>⟨(-1),hm,rfl,((hS.cell (id:=901) (t:=3) (cs:=[I ao]) kr).out (f:=(bU (zAe0 i1 i2 i3))) hC kr kr (hP.at 0 rfl)),((hS.cell (id:=902) (t:=3) (cs:=[I ay]) kr).out (f:=(bU (zAe0 i1 i2 i3))) hC kr kr (hP.at 1 rfl)),((hS.cell (id:=903) (t:=43) (cs:=[Sl a2 aO c2]) kr).out (f:=(bU (zAe0 i1 i2 i3))) hC kr kr (hP.at 2 rfl))⟩)
theorem C93_75 (LK:S75) (v:∀ (s_:List (Int × Int)) (ao:Int) (ay:Int) (aO:List Int),VC93_75 s_ ao ay aO (fun r=>r=br s_ ao ay aO)):S93_75:=by
 intro w X s_ ao ay aO a1 c1 a2 c2  b1 i1 b2 i2 b3 i3 h1 h2 fB gO lR hA
 refine (W93_75 LK w X s_ ao ay aO a1 c1 a2 c2  b1 i1 b2 i2 b3 i3 _ (v s_ ao ay aO) h1 h2 fB gO lR hA).mono ?_
 rintro _ _ _ _ ⟨r,rfl,h⟩
 exact h
theorem W78_75 (xu:S93_75) (w0) (X0) (s_:List (Int × Int)) (ao:Int) (ay:Int) (aO:List Int) (a1) (c1) (a2) (c2) (b1) (i1) (b2) (i2) (b3) (i3) (Q:Bool->Prop) (hm:VC78_75 s_ ao ay aO Q) (h1:RS tP2 w0 X0 a1 s_ c1) (h2:RS tI w0 X0 a2 aO c2) (fB:Cell w0 X0 b1 i1 3 [.int .i64 ao]) (gO:Cell w0 X0 b2 i2 3 [.int .i64 ay]) (lR:Cell w0 X0 b3 i3 43 [.slice a2 aO.length c2]) (hA:dZ [i1,i2,i3]) :
  Ret Tryz.prog 78 #[.slice a1 s_.length c1,.func (.func 75) #[] #[.pointer (some ⟨b1,0,none⟩),.pointer (some ⟨b2,0,none⟩),.pointer (some ⟨b3,0,none⟩)]] (pR [i1,i2,i3]) w0 X0 (fun w X' v=>∃ r,Q r/\v=.bool r/\Cell w X' b1 i1 3 [.int .i64 ao]/\Cell w X' b2 i2 3 [.int .i64 ay]/\Cell w X' b3 i3 43 [.slice a2 aO.length c2]):=by
 unfold VC78_75 at hm
 replace hm:=hm (h1.sm kr)
 replace hm:=hm (h2.sm kr)
 refine fO Tryz.func78 rfl (dL (zAe0 i1 i2 i3)) (fun id=>(bif Nat.beq id 901 then b1 else (bif Nat.beq id 902 then b2 else (bif Nat.beq id 903 then b3 else 0)))) (args:=[Sl a1 s_ c1,.f (.func 75) [] [.p 901 0,.p 902 0,.p 903 0]]) (bxs:=[(901,(3,[I ao])),(902,(3,[I ay])),(903,(43,[Sl a2 aO c2]))]) kr rfl (bu.cons kr (fB.map (bQ 0 hA.1 rfl)) (bu.cons kr (gO.map (bQ 1 hA.1 rfl)) (bu.cons kr (lR.map (bQ 2 hA.1 rfl)) bu.nil))) (fD (fun q hq=>(hA.2 q.1 (List.mem_map.2 ⟨q,hq,rfl⟩)).1)) ?_
 intro a hS hO hM
 have hP:Pin [(901,b1),(902,b2),(903,b3)] (fun id=>(bif Nat.beq id 901 then b1 else (bif Nat.beq id 902 then b2 else (bif Nat.beq id 903 then b3 else 0)))):=by intro q hq; simp at hq; rcases hq with rfl | rfl | rfl <;> rfl
 generalize (fun id=>(bif Nat.beq id 901 then b1 else (bif Nat.beq id 902 then b2 else (bif Nat.beq id 903 then b3 else 0))))=Z at hS hP
 clear fB gO lR
 replace h1:=h1.m0 hM
 replace h2:=h2.m0 hM
 refine rPe T hS [] [] fun a hS=>?_
 refine bq ?_
 refine oPe T hS 2 [0,1] [(5,Sl a1 s_ c1),(6,.f (.func 75) [] [.p 901 0,.p 902 0,.p 903 0])] fun a hS=>?_
 refine op1 (ma hS kr kr hb93 kr (xu _ _ s_ ao ay aO a1 c1 a2 c2 (Z 901) 901 (Z 902) 902 (Z 903) 903 h1 h2 (hS.cell (id:=901) (t:=3) (cs:=[I ao]) kr) (hS.cell (id:=902) (t:=3) (cs:=[I ay]) kr) (hS.cell (id:=903) (t:=43) (cs:=[Sl a2 aO c2]) kr) ⟨by decide,by decide⟩) ?_)
 intro v101 a fp fx hE hp hS
 replace hO:=hO.m2 hE
 replace h1:=h1.m1 hE
 replace h2:=h2.m1 hE
 obtain ⟨hp,vF,vE,rm⟩:=hp
 obtain ⟨ax,hr⟩:∃ r,br s_ ao ay aO=r:=⟨_,rfl⟩
 replace hm:=hm ax hr
 rw [hr] at hp
 clear hr
 subst hp
 replace hS:=hS.cQ (id:=901) (t:=3) (cs:=[I ao]) kr vF
 replace hS:=hS.cQ (id:=902) (t:=3) (cs:=[I ay]) kr vE
 replace hS:=hS.cQ (id:=903) (t:=43) (cs:=[Sl a2 aO c2]) kr rm
 clear vF vE rm
 refine ePe T hS [5,6,7] [(4,B (decide (ax≥0)))] fun a hS=>?_
 refine aY ?_
 exact gW T hS hO (fun c h=>b0 kr h) (fun c h=>b5 (l:=(zAe0 i1 i2 i3)) h) (bU (zAe0 i1 i2 i3)) rfl (r:=[.bool (decide (ax≥0))]) kr (fun X' hM hC=>⟨(decide (ax≥0)),hm,rfl,((hS.cell (id:=901) (t:=3) (cs:=[I ao]) kr).out (f:=(bU (zAe0 i1 i2 i3))) hC kr kr (hP.at 0 rfl)),((hS.cell (id:=902) (t:=3) (cs:=[I ay]) kr).out (f:=(bU (zAe0 i1 i2 i3))) hC kr kr (hP.at 1 rfl)),((hS.cell (id:=903) (t:=43) (cs:=[Sl a2 aO c2]) kr).out (f:=(bU (zAe0 i1 i2 i3))) hC kr kr (hP.at 2 rfl))⟩)
theorem C78_75 (xu:S93_75) (v:∀ (s_:List (Int × Int)) (ao:Int) (ay:Int) (aO:List Int),VC78_75 s_ ao ay aO (fun r=>r=bJ s_ ao ay aO)):S78_75:=by
 intro w X s_ ao ay aO a1 c1 a2 c2  b1 i1 b2 i2 b3 i3 h1 h2 fB gO lR hA
 refine (W78_75 xu w X s_ ao ay aO a1 c1 a2 c2  b1 i1 b2 i2 b3 i3 _ (v s_ ao ay aO) h1 h2 fB gO lR hA).mono ?_
 rintro _ _ _ _ ⟨r,rfl,h⟩
 exact h
theorem W74 (GI:S77) (xw:S78_75) (w0) (X0) (x_:Int) (ao:Int) (ay:List Int) (aO:List (Int × Int)) (a1) (c1) (a2) (c2) (b1) (i1) (b2) (i2) (b3) (i3) (Q:Bool->Prop) (hm:VC74 x_ ao ay aO Q) (h1:RS tI w0 X0 a1 ay c1) (h2:RS tP2 w0 X0 a2 aO c2) (fB:Cell w0 X0 b1 i1 3 [.int .i64 ao]) (gO:Cell w0 X0 b2 i2 43 [.slice a1 ay.length c1]) (lR:Cell w0 X0 b3 i3 95 [.slice a2 aO.length c2]) (hA:dZ [i1,i2,i3]) :
  Ret Tryz.prog 74 #[.int .i64 x_,.pointer (some ⟨b1,0,none⟩),.pointer (some ⟨b2,0,none⟩),.pointer (some ⟨b3,0,none⟩)] (pR [i1,i2,i3]) w0 X0 (fun w X' v=>∃ r,Q r/\v=.bool r/\Cell w X' b1 i1 3 [.int .i64 ao]/\Cell w X' b2 i2 43 [.slice a1 ay.length c1]/\Cell w X' b3 i3 95 [.slice a2 aO.length c2]):=by
 unfold VC74 at hm
 replace hm:=hm (h1.sm kr)
 replace hm:=hm (h2.sm kr)
 refine fO Tryz.func74 rfl (dL (zAe0 i1 i2 i3)) (fun id=>(bif Nat.beq id 901 then b1 else (bif Nat.beq id 902 then b2 else (bif Nat.beq id 903 then b3 else 0)))) (args:=[I x_,Pt 901 0,Pt 902 0,Pt 903 0]) (bxs:=[(901,(3,[I ao])),(902,(43,[Sl a1 ay c1])),(903,(95,[Sl a2 aO c2]))]) kr rfl (bu.cons kr (fB.map (bQ 0 hA.1 rfl)) (bu.cons kr (gO.map (bQ 1 hA.1 rfl)) (bu.cons kr (lR.map (bQ 2 hA.1 rfl)) bu.nil))) (fD (fun q hq=>(hA.2 q.1 (List.mem_map.2 ⟨q,hq,rfl⟩)).1)) ?_
 intro a hS hO hM
 have hP:Pin [(901,b1),(902,b2),(903,b3)] (fun id=>(bif Nat.beq id 901 then b1 else (bif Nat.beq id 902 then b2 else (bif Nat.beq id 903 then b3 else 0)))):=by intro q hq; simp at hq; rcases hq with rfl | rfl | rfl <;> rfl
 generalize (fun id=>(bif Nat.beq id 901 then b1 else (bif Nat.beq id 902 then b2 else (bif Nat.beq id 903 then b3 else 0))))=Z at hS hP
 clear fB gO lR
 replace h1:=h1.m0 hM
 replace h2:=h2.m0 hM
 refine rM T hS ⟨[(1,Pt 901 0),(2,Pt 902 0),(3,Pt 903 0),(4,Pt 5 0)],[(5,(3,[I x_])),(901,(3,[I ao])),(902,(43,[Sl a1 ay c1])),(903,(95,[Sl a2 aO c2]))]⟩ fun Z a zK rN hS hE hr=>?_
 replace hO:=hO.m2 hE
 replace h1:=h1.m1 hE
 replace h2:=h2.m1 hE
 replace hP:=hP.mv hr kr
 clear hE hr
 refine rPe T hS [1] [(6,.f (.func 75) [] [.p 901 0,.p 5 0,.p 902 0])] fun a hS=>?_
 refine bq ?_
 refine oPe T hS 2 [2,4] [(8,Sl a1 ay c1),(9,I x_)] fun a hS=>?_
 refine op1 (call hS kr kr hb77 kr (fun _ _=>rfl) (GI _ _ ay x_ a1 c1 h1) ?_)
 intro v101 a fp fx hE hp hS
 replace hO:=hO.m2 hE
 replace h1:=h1.m1 hE
 replace h2:=h2.m1 hE
 obtain ⟨ax,hr⟩:∃ r,cC ay x_=r:=⟨_,rfl⟩
 replace hm:=hm ax hr
 rw [hr] at hp
 clear hr
 subst hp
 refine oPe T hS 1 [8,9,10] [(11,B ax)] fun a hS=>?_
 rcases bft ax with hb | hb
 ·replace hS:=hS.lit (t:=11) kr hb
  replace hm:=hm.1 hb
  refine eP T hS ⟨[(5,B true)],[(901,(3,[I ao])),(902,(43,[Sl a1 ay c1])),(903,(95,[Sl a2 aO c2]))]⟩ fun a hS=>?_
  refine aY ?_
  exact gW T hS hO (fun c h=>b0 kr h) (fun c h=>b5 (l:=(zAe0 i1 i2 i3)) h) (bU (zAe0 i1 i2 i3)) rfl (r:=[.bool true]) kr (fun X' hM hC=>⟨true,hm,rfl,((hS.cell (id:=901) (t:=3) (cs:=[I ao]) kr).out (f:=(bU (zAe0 i1 i2 i3))) hC kr kr (hP.at 0 rfl)),((hS.cell (id:=902) (t:=43) (cs:=[Sl a1 ay c1]) kr).out (f:=(bU (zAe0 i1 i2 i3))) hC kr kr (hP.at 1 rfl)),((hS.cell (id:=903) (t:=95) (cs:=[Sl a2 aO c2]) kr).out (f:=(bU (zAe0 i1 i2 i3))) hC kr kr (hP.at 2 rfl))⟩)
 replace hS:=hS.lit (t:=11) kr hb
 replace hm:=hm.2 hb
 refine oPe T hS 2 [3,6] [(12,Sl a2 aO c2),(13,.f (.func 75) [] [.p 901 0,.p 5 0,.p 902 0])] fun a hS=>?_
 refine op1 (ma hS kr kr hb78 kr (xw _ _ aO ao x_ ay a2 c2 a1 c1 (Z 901) 901 (Z 5) 5 (Z 902) 902 h2 h1 (hS.cell (id:=901) (t:=3) (cs:=[I ao]) kr) (hS.cell (id:=5) (t:=3) (cs:=[I x_]) kr) (hS.cell (id:=902) (t:=43) (cs:=[Sl a1 ay c1]) kr) ⟨by decide,by decide⟩) ?_)
 intro v105 a ny m9 hE hp hS
 replace hO:=hO.m2 hE
 replace h1:=h1.m1 hE
 replace h2:=h2.m1 hE
 obtain ⟨hp,FP,vD,vC⟩:=hp
 obtain ⟨ba,hr⟩:∃ r,bJ aO ao x_ ay=r:=⟨_,rfl⟩
 replace hm:=hm ba hr
 rw [hr] at hp
 clear hr
 subst hp
 replace hS:=hS.cQ (id:=901) (t:=3) (cs:=[I ao]) kr FP
 replace hS:=hS.cQ (id:=5) (t:=3) (cs:=[I x_]) kr vD
 replace hS:=hS.cQ (id:=902) (t:=43) (cs:=[Sl a1 ay c1]) kr vC
 clear FP vD vC
 refine eP T hS ⟨[(5,B ba)],[(901,(3,[I ao])),(902,(43,[Sl a1 ay c1])),(903,(95,[Sl a2 aO c2]))]⟩ fun a hS=>?_
 refine aY ?_
 exact gW T hS hO (fun c h=>b0 kr h) (fun c h=>b5 (l:=(zAe0 i1 i2 i3)) h) (bU (zAe0 i1 i2 i3)) rfl (r:=[.bool ba]) kr (fun X' hM hC=>⟨ba,hm,rfl,((hS.cell (id:=901) (t:=3) (cs:=[I ao]) kr).out (f:=(bU (zAe0 i1 i2 i3))) hC kr kr (hP.at 0 rfl)),((hS.cell (id:=902) (t:=43) (cs:=[Sl a1 ay c1]) kr).out (f:=(bU (zAe0 i1 i2 i3))) hC kr kr (hP.at 1 rfl)),((hS.cell (id:=903) (t:=95) (cs:=[Sl a2 aO c2]) kr).out (f:=(bU (zAe0 i1 i2 i3))) hC kr kr (hP.at 2 rfl))⟩)
theorem C74 (GI:S77) (xw:S78_75) (v:∀ (x_:Int) (ao:Int) (ay:List Int) (aO:List (Int × Int)),VC74 x_ ao ay aO (fun r=>r=dg x_ ao ay aO)):S74:=by
 intro w X x_ ao ay aO a1 c1 a2 c2  b1 i1 b2 i2 b3 i3 h1 h2 fB gO lR hA
 refine (W74 GI xw w X x_ ao ay aO a1 c1 a2 c2  b1 i1 b2 i2 b3 i3 _ (v x_ ao ay aO) h1 h2 fB gO lR hA).mono ?_
 rintro _ _ _ _ ⟨r,rfl,h⟩
 exact h
theorem W44 (LM:S74) (w0) (X0) (n_:Int) (pairs:List (Int × Int)) (a1) (c1) (Q:(List Int) × Bool->Prop) (hm:VC44 n_ pairs Q) (h1:RS tP2 w0 X0 a1 pairs c1) :
  Ret Tryz.prog 44 #[.int .i64 n_,.slice a1 pairs.length c1] aL w0 X0 (fun w X' v=>∃ r,Q r/\∃ cz cy,v=.tuple #[.slice cz r.1.length cy,.bool r.2]/\RS tI w X' cz r.1 cy):=by
 unfold VC44 at hm
 replace hm:=hm (h1.sm kr)
 refine enter Tryz.func44 rfl (vals:=[.int .i64 n_,.slice a1 pairs.length c1]) kr ?_
 intro Z a hS hO hM
 replace h1:=h1.m0 hM
 refine rM T hS ⟨[(2,Pt 3 0),(3,Pt 4 0)],[(3,(3,[I n_])),(4,(95,[Sl a1 pairs c1]))]⟩ fun Z a Ij R0 hS hE hr=>?_
 replace hO:=hO.m2 hE
 replace h1:=h1.m1 hE
 clear hE hr
 refine bg ?_
 refine rPe T hS [] [(14,B ((decide (n_ < 0)) || (decide (n_ > 64))))] (sp:=[11]) fun a hS=>?_
 refine aJ hS (b:=((decide (n_ < 0)) || (decide (n_ > 64)))) kr (fun hb=>?_) fun hb=>?_
 ·replace hm:=hm.1 hb
  refine rP T hS ⟨[(4,V (.slice none 0 0)),(5,B false)],[]⟩ fun a hS=>?_
  refine aY ?_
  exact fin T hS hO (fun c=>c) rfl (r:=[.slice none 0 0,.bool false]) kr (fun X' hM hC=>⟨([],false),hm,none,0,rfl,RS.empty _ _ _⟩)
 replace hm:=hm.2 hb
 refine aM ?_
 refine bq ?_
 refine oPe T hS 1 [14] [(15,I n_)] fun a hS=>?_
 obtain ⟨hq,hm⟩:=hm
 refine op1 (make (E:=3) (kl:=.i64) (kc:=.i64) (col:=1005) (T:=tI) T 0 hS kr kr kr kr kr kr hq.1 hq.2.1 (by have:=hq.2.2; have e_:((tI.bytes:Nat):Int)=8:=rfl; rw [e_]; omega) (by have:=hq.2.2; omega) (fun _ _=>rfl) ?_)
 intro b101 a fp fx hE h104 hN hS
 clear hq hN
 replace hO:=hO.m2 hE
 replace h1:=h1.m1 hE
 replace hS:=hS.conv (t:=16) (y:=.slice (some ⟨b101,0,none⟩) (List.replicate (0:Int).toNat (0:Int)).length n_.toNat) kr (by rw [List.length_replicate])
 refine eM T hS ⟨[(2,Pt 3 0),(3,Pt 4 0),(6,Pt 7 0)],[(3,(3,[I n_])),(4,(95,[Sl a1 pairs c1])),(7,(43,[V (.slice (some ⟨b101,0,none⟩) (List.replicate (0:Int).toNat (0:Int)).length n_.toNat)]))]⟩ fun Z a DP Kg hS hE hr=>?_
 replace hO:=hO.m2 hE
 replace h1:=h1.m1 hE
 replace h104:=h104.m2 hE
 clear hE hr
 refine rPe T hS [3] [(7,.f (.func 74) [] [.p 3 0,.p 7 0,.p 4 0])] fun a hS=>?_
 refine cb (fun a w=>∃ (Z:Nat->Nat) (X:Nat->Nat) (fY:List Int) (jn:Option Addr) (jl:Nat),VC44_J1 Q fY/\St Tryz.f44.ntmps ⟨[(6,Pt 7 0)],[(7,(43,[Sl jn fY jl]))]⟩ Z a w X/\Old w0 X0 w X/\OS tI 3 w X 1005 jn fY jl) ?_ ?_
 ·refine aN ?_
  obtain ⟨I1,μ1,cx,hm⟩:=hm
  refine ct (σ:=(List Int)) (fun s a w=>∃ Z X jL jK,I1 s/\St Tryz.f44.ntmps ⟨[(2,Pt 3 0),(6,Pt 7 0),(7,.f (.func 74) [] [.p 3 0,.p 7 0,.p 4 0])],[(3,(3,[I n_])),(4,(95,[Sl a1 pairs c1])),(7,(43,[Sl jL s jK]))]⟩ Z a w X/\Old w0 X0 w X/\RS tP2 w X a1 pairs c1/\OS tI 3 w X 1005 jL s jK) (fun s=>μ1 s) (List.replicate (0:Int).toNat (0:Int)) ?_ ?_
  ·exact ⟨Z,_,(some ⟨b101,0,none⟩),n_.toNat,cx,hS.sl _,hO,h1,h104⟩
  rintro db a DQ ⟨Z,Di,jL,jK,hI,hS,hO,h111,h115⟩
  replace hm:=hm db hI
  clear hI cx
  refine bg ?_
  refine rPe T hS [] [(21,B (decide ((lN db) < n_)))] fun a hS=>?_
  refine aJ hS (b:=decide ((lN db) < n_)) kr (fun hb=>?_) fun hb=>?_
  ·replace hm:=hm.1 hb
   refine aM ?_
   refine aN ?_
   refine rPe T hS [21] [(8,I 0)] fun a hS=>?_
   refine cb (fun a w=>∃ (Z:Nat->Nat) (X:Nat->Nat) (a9:Int) (jO:List Int) (rL:Option Addr) (rE:Nat),VC44_J2 n_ Q I1 μ1 db a9 jO/\St Tryz.f44.ntmps ⟨[(2,Pt 3 0),(6,Pt 7 0),(7,.f (.func 74) [] [.p 3 0,.p 7 0,.p 4 0]),(8,I a9)],[(3,(3,[I n_])),(4,(95,[Sl a1 pairs c1])),(7,(43,[Sl rL jO rE]))]⟩ Z a w X/\Old w0 X0 w X/\RS tP2 w X a1 pairs c1/\OS tI 3 w X 1005 rL jO rE) ?_ ?_
   ·refine aN ?_
    obtain ⟨I2,μ2,cx,hm⟩:=hm
    refine ct (σ:=Int × (List Int)) (fun s a w=>∃ Z X nT nP,I2 s.1 s.2/\St Tryz.f44.ntmps ⟨[(2,Pt 3 0),(6,Pt 7 0),(7,.f (.func 74) [] [.p 3 0,.p 7 0,.p 4 0]),(8,I s.1)],[(3,(3,[I n_])),(4,(95,[Sl a1 pairs c1])),(7,(43,[Sl nT s.2 nP]))]⟩ Z a w X/\Old w0 X0 w X/\RS tP2 w X a1 pairs c1/\OS tI 3 w X 1005 nT s.2 nP) (fun s=>μ2 s.1 s.2) (⟨0,db⟩) ?_ ?_
    ·exact ⟨Z,_,jL,jK,cx,hS.sl _,hO,h111,h115⟩
    rintro ⟨mU,gq⟩ a DR ⟨Z,E0,nT,nP,hI,hS,hO,h134,h138⟩
    replace hm:=hm mU gq hI
    clear hI cx
    refine bg ?_
    refine cb (fun a w=>∃ (Z:Nat->Nat) (X:Nat->Nat) (jN:Bool) (jB:List Int) (kE:Option Addr) (kA:Nat),VC44_J3 n_ Q I1 μ1 db I2 μ2 mU gq jN jB/\St Tryz.f44.ntmps ⟨[(2,Pt 3 0),(6,Pt 7 0),(7,.f (.func 74) [] [.p 3 0,.p 7 0,.p 4 0]),(8,I mU),(29,B jN)],[(3,(3,[I n_])),(4,(95,[Sl a1 pairs c1])),(7,(43,[Sl kE jB kA]))]⟩ Z a w X/\Old w0 X0 w X/\RS tP2 w X a1 pairs c1/\OS tI 3 w X 1005 kE jB kA) ?_ ?_
    ·refine region ?_
     refine oPe T hS 4 [] [(25,B (decide (mU < n_)))] fun a hS=>?_
     rcases bft (decide (mU < n_)) with hb | hb
     ·replace hS:=hS.lit (t:=25) kr hb
      replace hm:=hm.1 hb
      refine oPe T hS 2 [] [(26,.f (.func 74) [] [.p 3 0,.p 7 0,.p 4 0]),(27,I mU)] fun a hS=>?_
      have hb149:=(hS.cell (id:=3) (t:=3) (cs:=[I n_]) kr)
      have hb150:=(hS.cell (id:=7) (t:=43) (cs:=[Sl nT gq nP]) kr)
      have hb151:=(hS.cell (id:=4) (t:=95) (cs:=[Sl a1 pairs c1]) kr)
      refine op1 (kx (fi:=[]) (cp:=[.p 3 0,.p 7 0,.p 4 0]) hS kr kr hb74 kr kr (Ret.tp kr (LM _ (fb 1005 _) mU n_ gq pairs nT nP a1 c1 (Z 3) 3 (Z 7) 7 (Z 4) 4 h138.fb (h134.m0 (M0.fb 1005)) (hb149.fb kr) (hb150.fb kr) (hb151.fb kr) ⟨by decide,by decide⟩)) ?_)
      intro v145 a DS HF hE hp hS
      replace hO:=hO.m2 hE
      replace h134:=h134.m1 hE
      replace h138:=h138.m2 hE
      obtain ⟨l8,_,hp⟩:=hp
      obtain ⟨hp,zf,ze,zd⟩:=hp
      replace zf:=zf.back hb149 l8
      replace ze:=ze.back hb150 l8
      replace zd:=zd.back hb151 l8
      clear l8 hb149 hb150 hb151
      obtain ⟨z1,hr⟩:∃ r,dg mU n_ gq pairs=r:=⟨_,rfl⟩
      replace hm:=hm z1 hr
      rw [hr] at hp
      clear hr
      subst hp
      replace hS:=hS.cQ (id:=3) (t:=3) (cs:=[I n_]) kr zf
      replace hS:=hS.cQ (id:=7) (t:=43) (cs:=[Sl nT gq nP]) kr ze
      replace hS:=hS.cQ (id:=4) (t:=95) (cs:=[Sl a1 pairs c1]) kr zd
      clear zf ze zd
      refine ePe T hS [25,26,27,28] [(29,B z1)] fun a hS=>?_
      exact ⟨Z,_,z1,gq,nT,nP,hm,hS.sl _,hO,h134,h138⟩
     replace hS:=hS.lit (t:=25) kr hb
     replace hm:=hm.2 hb
     refine ePe T hS [25] [(29,B false)] fun a hS=>?_
     exact ⟨Z,_,false,gq,nT,nP,hm,hS.sl _,hO,h134,h138⟩
    rintro a Im ⟨Z,xW,jN,jB,kE,kA,hm,hS,hO,h140,h144⟩
    unfold VC44_J3 at hm
    refine aJ hS (b:=jN) kr (fun hb=>?_) fun hb=>?_
    ·replace hm:=hm.1 hb
     refine aM ?_
     refine aN ?_
     refine region (ePe T hS [29] [(8,I (wR (mU+1)))] fun a hS=>?_)
     exact ⟨⟨wR (mU+1),jB⟩,⟨Z,_,kE,kA,hm.1,hS.sl _,hO,h140,h144⟩,hm.2⟩
    replace hm:=hm.2 hb
    refine cm (by rfl) ?_
    exact ⟨Z,_,mU,jB,kE,kA,hm,hS.sl _,hO,h140,h144⟩
   rintro a Bl ⟨Z,HC,a9,jO,rL,rE,hm,hS,hO,h117,h121⟩
   unfold VC44_J2 at hm
   refine bg ?_
   refine rPe T hS [] [(34,B (a9 == n_))] fun a hS=>?_
   refine aJ hS (b:=(a9 == n_)) kr (fun hb=>?_) fun hb=>?_
   ·replace hm:=hm.1 hb
    refine rP T hS ⟨[(4,V (.slice none 0 0)),(5,B false)],[]⟩ fun a hS=>?_
    refine aY ?_
    exact fin T hS hO (fun c=>c) rfl (r:=[.slice none 0 0,.bool false]) kr (fun X' hM hC=>⟨([],false),hm,none,0,rfl,RS.empty _ _ _⟩)
   replace hm:=hm.2 hb
   refine aM ?_
   refine region ?_
   refine oPe T hS 2 [8,34] [(35,Sl rL jO rE),(36,I a9)] fun a hS=>?_
   refine op1 (lit (E:=3) (col:=0) (T:=tI) (vals:=[.int .i64 a9]) (ys:=[a9]) T hS kr kr kr kr (by exact ⟨rfl,trivial⟩) rfl kr kr kr kr ?_)
   intro b122 a Gi x5 hE h125 hN hS
   clear hN
   replace hO:=hO.m2 hE
   replace h117:=h117.m1 hE
   replace h121:=h121.m2 hE
   replace h125:=h125.rs0
   obtain ⟨hq,hm⟩:=hm
   obtain ⟨news,hN⟩:=h125.src
   refine op1 (append (E:=3) (T:=tI) (col:=1005) (xs:=jO) T hS kr kr kr kr h121 hN kr kr kr kr hq ?_)
   intro lX lW a tm p9 hE h128 hS
   clear hq hN
   clear h121
   replace hO:=hO.m2 hE
   replace h117:=h117.m1 hE
   replace h125:=h125.m1 hE
   refine eM T hS ⟨[(2,Pt 3 0),(6,Pt 7 0),(7,.f (.func 74) [] [.p 3 0,.p 7 0,.p 4 0])],[(3,(3,[I n_])),(4,(95,[Sl a1 pairs c1])),(7,(43,[Sl lX (jO++[a9]) lW]))]⟩ fun Z a pU pq hS hE hr=>?_
   replace hO:=hO.m2 hE
   replace h117:=h117.m1 hE
   replace h128:=h128.m2 hE
   clear hE hr
   exact ⟨jO++[a9],⟨Z,_,lX,lW,hm.1,hS.sl _,hO,h117,h128⟩,hm.2⟩
  replace hm:=hm.2 hb
  refine cm (by rfl) ?_
  exact ⟨Z,_,db,jL,jK,hm,hS.sl _,hO,h115⟩
 rintro a Gc ⟨Z,EY,fY,jn,jl,hm,hS,hO,h108⟩
 unfold VC44_J1 at hm
 refine rP T hS ⟨[(4,Sl jn fY jl),(5,B true)],[]⟩ fun a hS=>?_
 refine aY ?_
 obtain ⟨Dq,hE,hF⟩:=h108.freeze (by decide)
 replace hS:=hS.ev hE (cA kr)
 replace hO:=hO.m2 hE
 have h110:=hF; clear hE hF
 exact fin T hS hO (fun c=>c) rfl (r:=[.slice jn fY.length jl,.bool true]) kr (fun X' hM hC=>⟨(fY,true),hm,jn,jl,rfl,h110.m0 hM⟩)
theorem C44 (LM:S74) (v:∀ (n_:Int) (pairs:List (Int × Int)),VC44 n_ pairs (fun r=>r=dp n_ pairs)):S44:=by
 intro w X n_ pairs a1 c1   h1
 refine (W44 LM w X n_ pairs a1 c1   _ (v n_ pairs) h1).mono ?_
 rintro _ _ _ _ ⟨r,rfl,h⟩
 exact h
theorem W47 (w0) (X0) (h_:al) (a1) (c1) (a2) (c2) (Q:(List aw)->Prop) (hm:VC47 h_ Q) (h1:RS aB w0 X0 a1 h_.ae c1) (h2:RS aP w0 X0 a2 h_.aq c2) :
  Ret Tryz.prog 47 #[.agg #[.slice a1 h_.ae.length c1,.slice a2 h_.aq.length c2]] aL w0 X0 (fun w X' v=>∃ r,Q r/\∃ cz cy,v=.slice cz r.length cy/\RS aR w X' cz r cy):=by
 unfold VC47 at hm
 replace hm:=hm (h1.sm kr)
 replace hm:=hm (h2.sm kr)
 refine enter Tryz.func47 rfl (vals:=[.agg #[.slice a1 h_.ae.length c1,.slice a2 h_.aq.length c2]]) kr ?_
 intro Z a hS hO hM
 replace h1:=h1.m0 hM
 replace h2:=h2.m0 hM
 refine rM T hS ⟨[(1,Pt 2 0)],[(2,(25,[Sl a1 h_.ae c1,Sl a2 h_.aq c2]))]⟩ fun Z a pU pq hS hE hr=>?_
 replace hO:=hO.m2 hE
 replace h1:=h1.m1 hE
 replace h2:=h2.m1 hE
 clear hE hr
 refine rPe T hS [] [(3,V (.slice none 0 0))] fun a hS=>?_
 refine cb (fun a w=>∃ (Z:Nat->Nat) (X:Nat->Nat) (bE:List aw) (dy:Option Addr) (dx:Nat),VC47_J1 Q bE/\St Tryz.f47.ntmps ⟨[(3,Sl dy bE dx)],[]⟩ Z a w X/\Old w0 X0 w X/\OS aR 61 w X 1003 dy bE dx) ?_ ?_
 ·refine rP T hS ⟨[(3,V (.slice none 0 0)),(7,Sl a2 h_.aq c2),(8,I (lN h_.aq)),(9,I 0)],[]⟩ fun a hS=>?_
  refine aN ?_
  obtain ⟨I1,μ1,cx,hm⟩:=hm
  refine ct (σ:=(List aw) × Int) (fun s a w=>∃ Z X gQ gP,I1 s.1 s.2/\St Tryz.f47.ntmps ⟨[(3,Sl gQ s.1 gP),(7,Sl a2 h_.aq c2),(8,I (lN h_.aq)),(9,I s.2)],[]⟩ Z a w X/\Old w0 X0 w X/\OS aR 61 w X 1003 gQ s.1 gP/\RS aP w X a2 h_.aq c2) (fun s=>μ1 s.1 s.2) (⟨[],0⟩) ?_ ?_
  ·exact ⟨Z,_,none,0,cx,hS.sl _,hO,(OS.nil _ _ _ _ _),h2⟩
  rintro ⟨gS,db⟩ a rV ⟨Z,p9,gQ,gP,hI,hS,hO,h110,h111⟩
  replace hm:=hm gS db hI
  clear hI cx
  refine rPe T hS [] [(10,B (decide (db < (lN h_.aq))))] fun a hS=>?_
  refine bg ?_
  refine aJ hS (b:=decide (db < (lN h_.aq))) kr (fun hb=>?_) fun hb=>?_
  ·replace hm:=hm.1 hb
   refine aM (bg ?_)
   refine aN ?_
   refine bq ?_
   obtain ⟨hq,hm⟩:=hm
   refine op1 (index (e:=63) (k:=.i64) T hS kr kr kr kr h111 kr kr hq.1 hq.2 ?_)
   intro HP a h114 hS
   refine op1 (eU T hS kr kr kr h114 kr kr ?_)
   intro v115 a hv hS
   subst hv
   refine eM T hS ⟨[(3,Sl gQ gS gP),(5,Pt 6 0),(7,Sl a2 h_.aq c2),(8,I (lN h_.aq)),(9,I db)],[(6,(63,[I ((gi h_.aq db).aA),I (((gi h_.aq db).aW).bo),I (((gi h_.aq db).aW).ak),I (((gi h_.aq db).aW).N)]))]⟩ fun Z a zJ x4 hS hE hr=>?_
   replace hO:=hO.m2 hE
   replace h110:=h110.m2 hE
   replace h111:=h111.m1 hE
   clear hE hr
   refine region ?_
   refine oP T hS 3 ⟨[(3,Sl gQ gS gP),(7,Sl a2 h_.aq c2),(8,I (lN h_.aq)),(9,I db),(13,Sl gQ gS gP),(15,V (.agg #[.int .i64 (((gi h_.aq db).aW).bo),.int .i64 (((gi h_.aq db).aW).ak),.int .i64 (((gi h_.aq db).aW).N)]))],[]⟩ fun a hS=>?_
   refine op1 (lit (E:=61) (col:=0) (T:=aR) (vals:=[.agg #[.int .i64 (((gi h_.aq db).aW).bo),.int .i64 (((gi h_.aq db).aW).ak),.int .i64 (((gi h_.aq db).aW).N)]]) (ys:=[((gi h_.aq db).aW)]) T hS kr kr kr kr (by exact ⟨rfl,trivial⟩) rfl kr kr kr kr ?_)
   intro b116 a Bs E5 hE h119 hN hS
   clear hN
   replace hO:=hO.m2 hE
   replace h110:=h110.m2 hE
   replace h111:=h111.m1 hE
   replace h119:=h119.rs0
   obtain ⟨hq,hm⟩:=hm
   obtain ⟨news,hN⟩:=h119.src
   refine op1 (append (E:=61) (T:=aR) (col:=1003) (xs:=gS) T hS kr kr kr kr h110 hN kr kr kr kr hq ?_)
   intro po pf a Gj HG hE h122 hS
   clear hq hN
   clear h110
   replace hO:=hO.m2 hE
   replace h111:=h111.m1 hE
   replace h119:=h119.m1 hE
   refine ePe T hS [15,16,17] [(3,Sl po (gS++[((gi h_.aq db).aW)]) pf)] fun a hS=>?_
   refine region (ePe T hS [] [(9,I (wR (db+1)))] fun a hS=>?_)
   exact ⟨⟨gS++[((gi h_.aq db).aW)],wR (db+1)⟩,⟨Z,_,po,pf,hm.1,hS.sl _,hO,h122,h111⟩,hm.2⟩
  replace hm:=hm.2 hb
  refine cm (by rfl) ?_
  exact ⟨Z,_,gS,gQ,gP,hm,hS.sl _,hO,h110⟩
 rintro a uI ⟨Z,sb,bE,dy,dx,hm,hS,hO,h104⟩
 unfold VC47_J1 at hm
 refine rPe T hS [3] [(2,Sl dy bE dx)] fun a hS=>?_
 refine aY ?_
 obtain ⟨pt,hE,hF⟩:=h104.freeze (by decide)
 replace hS:=hS.ev hE (cA kr)
 replace hO:=hO.m2 hE
 have h106:=hF; clear hE hF
 exact fin T hS hO (fun c=>c) rfl (r:=[.slice dy bE.length dx]) kr (fun X' hM hC=>⟨bE,hm,dy,dx,rfl,h106.m0 hM⟩)
theorem C47 (v:∀ (h_:al),l5 h_->VC47 h_ (fun r=>r=bT h_)):S47:=by
 intro w X h_ a1 c1 a2 c2   hp h1 h2
 refine (W47 w X h_ a1 c1 a2 c2   _ (v h_ hp) h1 h2).mono ?_
 rintro _ _ _ _ ⟨r,rfl,h⟩
 exact h
theorem W52 (tY:S53) (w0) (X0) (o_:aj) (a1) (c1) (Q:Bool->Prop) (hm:VC52 o_ Q) (h1:RS aC w0 X0 a1 o_.Rows c1) :
  Ret Tryz.prog 52 #[.agg #[.int .i64 o_.au,.int .i64 o_.az,.int .i64 o_.aH,.slice a1 o_.Rows.length c1]] aL w0 X0 (fun w X' v=>∃ r,Q r/\v=.bool r):=by
 unfold VC52 at hm
 replace hm:=hm (h1.sm kr)
 refine enter Tryz.func52 rfl (vals:=[.agg #[.int .i64 o_.au,.int .i64 o_.az,.int .i64 o_.aH,.slice a1 o_.Rows.length c1]]) kr ?_
 intro Z a hS hO hM
 replace h1:=h1.m0 hM
 refine rM T hS ⟨[(1,Pt 2 0)],[(2,(48,(cO o_ a1 c1)))]⟩ fun Z a nz mi hS hE hr=>?_
 replace hO:=hO.m2 hE
 replace h1:=h1.m1 hE
 clear hE hr
 refine bq ?_
 refine oP T hS 1 ⟨[(6,V (.agg #[.int .i64 o_.au,.int .i64 o_.az,.int .i64 o_.aH,.slice a1 o_.Rows.length c1]))],[]⟩ fun a hS=>?_
 obtain ⟨hq,hm⟩:=hm
 refine op1 (call hS kr kr hb53 kr (fun _ _=>rfl) (tY _ _ o_ a1 c1 hq h1) ?_)
 intro v101 a fp fx hE hp hS
 replace hO:=hO.m2 hE
 replace h1:=h1.m1 hE
 obtain ⟨ax,hr⟩:∃ r,bB o_=r:=⟨_,rfl⟩
 replace hm:=hm ax hr
 rw [hr] at hp
 clear hr
 subst hp
 refine ePe T hS [6,7] [(4,I ax.2)] fun a hS=>?_
 refine rPe T hS [4] [(2,B (ax.2 != 0))] fun a hS=>?_
 refine aY ?_
 exact fin T hS hO (fun c=>c) rfl (r:=[.bool (ax.2 != 0)]) kr (fun X' hM hC=>⟨(ax.2 != 0),hm,rfl⟩)
theorem C52 (tY:S53) (v:∀ (o_:aj),kL o_->VC52 o_ (fun r=>r=cZ o_)):S52:=by
 intro w X o_ a1 c1   hp h1
 refine (W52 tY w X o_ a1 c1   _ (v o_ hp) h1).mono ?_
 rintro _ _ _ _ ⟨r,rfl,h⟩
 exact h
theorem W83_52 (LZ:S52) (w0) (X0) (s_:List aj) (a1) (c1) (Q:Int->Prop) (hm:VC83_52 s_ Q) (h1:RS aB w0 X0 a1 s_ c1) (hA:dZ []) :
  Ret Tryz.prog 83 #[.slice a1 s_.length c1,.func (.func 52) #[] #[]] (pR []) w0 X0 (fun w X' v=>∃ r,Q r/\v=.int .i64 r):=by
 unfold VC83_52 at hm
 replace hm:=hm (h1.sm kr)
 refine fO Tryz.func83 rfl (dL []) (fun id=>0) (args:=[Sl a1 s_ c1,.f (.func 52) [] []]) (bxs:=[]) kr rfl bu.nil (fD (fun q hq=>(hA.2 q.1 (List.mem_map.2 ⟨q,hq,rfl⟩)).1)) ?_
 intro a hS hO hM
 generalize (fun id:Nat=>0)=Z at hS
 replace h1:=h1.m0 hM
 refine rPe T hS [] [] fun a hS=>?_
 refine cb (fun a w=>∃ Z X,VC83_52_J1 Q/\St Tryz.f83.ntmps ⟨[],[]⟩ Z a w X/\gj (dL []) w0 X0 w X) ?_ ?_
 ·refine rPe T hS [] [(7,I (lN s_)),(8,I 0)] fun a hS=>?_
  refine aN ?_
  obtain ⟨I1,μ1,cx,hm⟩:=hm
  refine ct (σ:=Int) (fun s a w=>∃ Z X,I1 s/\St Tryz.f83.ntmps ⟨[(0,Sl a1 s_ c1),(1,.f (.func 52) [] []),(7,I (lN s_)),(8,I s)],[]⟩ Z a w X/\gj (dL []) w0 X0 w X/\RS aB w X a1 s_ c1) (fun s=>μ1 s) (0) ?_ ?_
  ·exact ⟨Z,_,cx,hS.sl _,hO,h1⟩
  rintro bC a Ip ⟨Z,rN,hI,hS,hO,h101⟩
  replace hm:=hm bC hI
  clear hI cx
  refine rPe T hS [] [(9,B (decide (bC < (lN s_))))] fun a hS=>?_
  refine bg ?_
  refine aJ hS (b:=decide (bC < (lN s_))) kr (fun hb=>?_) fun hb=>?_
  ·replace hm:=hm.1 hb
   refine aM (bg ?_)
   refine aN ?_
   refine rPe T hS [9] [(5,I bC)] fun a hS=>?_
   refine bq ?_
   refine oPe T hS 3 [] [(11,.f (.func 52) [] []),(12,Sl a1 s_ c1),(13,I bC)] fun a hS=>?_
   obtain ⟨hq,hm⟩:=hm
   refine op1 (index (e:=48) (k:=.i64) T hS kr kr kr kr h101 kr kr hq.1 hq.2 ?_)
   intro uE a h104 hS
   refine op1 (eU T hS kr kr kr h104 kr kr ?_)
   intro v105 a hv hS
   obtain ⟨jn,jl,hv,h108⟩:=hv
   subst hv
   replace hm:=hm (h108.sm kr)
   obtain ⟨hq,hm⟩:=hm
   refine op1 (F4 (fi:=[]) (cp:=[]) hS kr kr hb52 kr kr (fun _ _=>rfl) (LZ _ _ (gi s_ bC) jn jl hq h108) ?_)
   intro v109 a Gk HI hE hp hS
   replace hO:=hO.m2 hE
   replace h101:=h101.m1 hE
   replace h104:=h104.m1 hE
   replace h108:=h108.m1 hE
   obtain ⟨bN,hr⟩:∃ r,cZ (gi s_ bC)=r:=⟨_,rfl⟩
   replace hm:=hm bN hr
   rw [hr] at hp
   clear hr
   subst hp
   refine gY ?_
   refine aJ hS (b:=bN) kr (fun hb=>?_) fun hb=>?_
   ·replace hm:=hm.1 hb
    refine rPe T hS [0,1,5,7,8,16] [(4,I bC)] fun a hS=>?_
    refine aY ?_
    exact gW T hS hO (fun c h=>b0 kr h) (fun c h=>b5 (l:=[]) h) (bU []) rfl (r:=[.int .i64 bC]) kr (fun X' hM hC=>⟨bC,hm,rfl⟩)
   replace hm:=hm.2 hb
   refine aM ?_
   refine region (ePe T hS [5,16] [(8,I (wR (bC+1)))] fun a hS=>?_)
   exact ⟨wR (bC+1),⟨Z,_,hm.1,hS.sl _,hO,h101⟩,hm.2⟩
  replace hm:=hm.2 hb
  refine cm (by rfl) ?_
  exact ⟨Z,_,hm,hS.sl _,hO⟩
 rintro a wT ⟨Z,HH,hm,hS,hO⟩
 unfold VC83_52_J1 at hm
 refine rPe T hS [] [(4,I (-1))] fun a hS=>?_
 refine aY ?_
 exact gW T hS hO (fun c h=>b0 kr h) (fun c h=>b5 (l:=[]) h) (bU []) rfl (r:=[.int .i64 (-1)]) kr (fun X' hM hC=>⟨(-1),hm,rfl⟩)
theorem C83_52 (LZ:S52) (v:∀ (s_:List aj),l6 s_->VC83_52 s_ (fun r=>r=bc s_)):S83_52:=by
 intro w X s_ a1 c1   hp h1 hA
 refine (W83_52 LZ w X s_ a1 c1   _ (v s_ hp) h1 hA).mono ?_
 rintro _ _ _ _ ⟨r,rfl,h⟩
 exact h
theorem W54_52 (xv:S83_52) (w0) (X0) (s_:List aj) (a1) (c1) (Q:Bool->Prop) (hm:VC54_52 s_ Q) (h1:RS aB w0 X0 a1 s_ c1) (hA:dZ []) :
  Ret Tryz.prog 54 #[.slice a1 s_.length c1,.func (.func 52) #[] #[]] (pR []) w0 X0 (fun w X' v=>∃ r,Q r/\v=.bool r):=by
 unfold VC54_52 at hm
 replace hm:=hm (h1.sm kr)
 refine fO Tryz.func54 rfl (dL []) (fun id=>0) (args:=[Sl a1 s_ c1,.f (.func 52) [] []]) (bxs:=[]) kr rfl bu.nil (fD (fun q hq=>(hA.2 q.1 (List.mem_map.2 ⟨q,hq,rfl⟩)).1)) ?_
 intro a hS hO hM
 generalize (fun id:Nat=>0)=Z at hS
 replace h1:=h1.m0 hM
 refine rPe T hS [] [] fun a hS=>?_
 refine bq ?_
 refine oPe T hS 2 [0,1] [(5,Sl a1 s_ c1),(6,.f (.func 52) [] [])] fun a hS=>?_
 obtain ⟨hq,hm⟩:=hm
 refine op1 (ma hS kr kr hb83 kr (xv _ _ s_ a1 c1 hq h1 ⟨by decide,by decide⟩) ?_)
 intro v101 a fp fx hE hp hS
 replace hO:=hO.m2 hE
 replace h1:=h1.m1 hE
 obtain ⟨ax,hr⟩:∃ r,bc s_=r:=⟨_,rfl⟩
 replace hm:=hm ax hr
 rw [hr] at hp
 clear hr
 subst hp
 refine ePe T hS [5,6,7] [(4,B (decide (ax≥0)))] fun a hS=>?_
 refine aY ?_
 exact gW T hS hO (fun c h=>b0 kr h) (fun c h=>b5 (l:=[]) h) (bU []) rfl (r:=[.bool (decide (ax≥0))]) kr (fun X' hM hC=>⟨(decide (ax≥0)),hm,rfl⟩)
theorem C54_52 (xv:S83_52) (v:∀ (s_:List aj),l6 s_->VC54_52 s_ (fun r=>r=aZ s_)):S54_52:=by
 intro w X s_ a1 c1   hp h1 hA
 refine (W54_52 xv w X s_ a1 c1   _ (v s_ hp) h1 hA).mono ?_
 rintro _ _ _ _ ⟨r,rfl,h⟩
 exact h
theorem W23 (Cc:S47) (xz:S54_52) (GM:S55) (w0) (X0) (h_:al) (a1) (c1) (a2) (c2) (Q:Int × Int->Prop) (hm:VC23 h_ Q) (h1:RS aB w0 X0 a1 h_.ae c1) (h2:RS aP w0 X0 a2 h_.aq c2) :
  Ret Tryz.prog 23 #[.agg #[.slice a1 h_.ae.length c1,.slice a2 h_.aq.length c2]] aL w0 X0 (fun w X' v=>∃ r,Q r/\v=.tuple #[.int .i64 r.1,.int .i64 r.2]):=by
 unfold VC23 at hm
 replace hm:=hm (h1.sm kr)
 replace hm:=hm (h2.sm kr)
 refine enter Tryz.func23 rfl (vals:=[.agg #[.slice a1 h_.ae.length c1,.slice a2 h_.aq.length c2]]) kr ?_
 intro Z a hS hO hM
 replace h1:=h1.m0 hM
 replace h2:=h2.m0 hM
 refine rM T hS ⟨[(1,Pt 2 0)],[(2,(25,[Sl a1 h_.ae c1,Sl a2 h_.aq c2]))]⟩ fun Z a Lc Kf hS hE hr=>?_
 replace hO:=hO.m2 hE
 replace h1:=h1.m1 hE
 replace h2:=h2.m1 hE
 clear hE hr
 refine rPe T hS [] [(4,.f (.func 52) [] [])] fun a hS=>?_
 refine bg ?_
 refine cb (fun a w=>∃ (Z:Nat->Nat) (X:Nat->Nat) (bE:Bool),VC23_J1 h_ Q bE/\St Tryz.f23.ntmps ⟨[(1,Pt 2 0),(25,B bE)],[(2,(25,[Sl a1 h_.ae c1,Sl a2 h_.aq c2]))]⟩ Z a w X/\Old w0 X0 w X/\RS aB w X a1 h_.ae c1/\RS aP w X a2 h_.aq c2) ?_ ?_
 ·refine region ?_
  refine oPe T hS 11 [] [(20,B ((decide ((lN h_.ae) < 1)) || (decide ((lN h_.ae) > 8))))] (sp:=[14]) fun a hS=>?_
  rcases bft ((decide ((lN h_.ae) < 1)) || (decide ((lN h_.ae) > 8))) with hb | hb
  ·replace hS:=hS.lit (t:=20) kr hb
   replace hm:=hm.1 hb
   refine ePe T hS [4,20] [(25,B true)] fun a hS=>?_
   exact ⟨Z,_,true,hm,hS.sl _,hO,h1,h2⟩
  replace hS:=hS.lit (t:=20) kr hb
  replace hm:=hm.2 hb
  refine oPe T hS 3 [4] [(22,Sl a1 h_.ae c1),(23,.f (.func 52) [] [])] fun a hS=>?_
  obtain ⟨hq,hm⟩:=hm
  refine op1 (ma hS kr kr hb54 kr (xz _ _ h_.ae a1 c1 hq h1 ⟨by decide,by decide⟩) ?_)
  intro v160 a Il NU hE hp hS
  replace hO:=hO.m2 hE
  replace h1:=h1.m1 hE
  replace h2:=h2.m1 hE
  obtain ⟨zY,hr⟩:∃ r,aZ h_.ae=r:=⟨_,rfl⟩
  replace hm:=hm zY hr
  rw [hr] at hp
  clear hr
  subst hp
  refine ePe T hS [20,22,23,24] [(25,B zY)] fun a hS=>?_
  exact ⟨Z,_,zY,hm,hS.sl _,hO,h1,h2⟩
 rintro a DP ⟨Z,HB,bE,hm,hS,hO,h102,h103⟩
 unfold VC23_J1 at hm
 refine aJ hS (b:=bE) kr (fun hb=>?_) fun hb=>?_
 ·replace hm:=hm.1 hb
  refine rP T hS ⟨[(2,I (-1)),(3,I 2)],[]⟩ fun a hS=>?_
  refine aY ?_
  exact fin T hS hO (fun c=>c) rfl (r:=[.int .i64 (-1),.int .i64 2]) kr (fun X' hM hC=>⟨((-1),2),hm,rfl⟩)
 replace hm:=hm.2 hb
 refine aM (bg ?_)
 refine bq ?_
 refine oPe T hS 1 [25] [(27,V (.agg #[.slice a1 h_.ae.length c1,.slice a2 h_.aq.length c2]))] fun a hS=>?_
 obtain ⟨hq,hm⟩:=hm
 refine op1 (call hS kr kr hb47 kr (fun _ _=>rfl) (Cc _ _ (⟨h_.ae,h_.aq⟩:al) a1 c1 a2 c2 hq h102 h103) ?_)
 intro v104 a nz mi hE hp hS
 replace hO:=hO.m2 hE
 replace h102:=h102.m1 hE
 replace h103:=h103.m1 hE
 obtain ⟨gQ,gP,hp,h110⟩:=hp
 obtain ⟨nC,hr⟩:∃ r,bT (⟨h_.ae,h_.aq⟩:al)=r:=⟨_,rfl⟩
 replace hm:=hm nC hr
 rw [hr] at hp h110
 clear hr
 subst hp
 replace hm:=hm (h110.sm kr)
 refine op1 (call hS kr kr hb55 kr (fun _ _=>rfl) (GM _ _ nC gQ gP h110) ?_)
 intro v111 a zK rN hE hp hS
 replace hO:=hO.m2 hE
 replace h102:=h102.m1 hE
 replace h103:=h103.m1 hE
 replace h110:=h110.m1 hE
 obtain ⟨da,hr⟩:∃ r,bV nC=r:=⟨_,rfl⟩
 replace hm:=hm da hr
 rw [hr] at hp
 clear hr
 subst hp
 refine ePe T hS [27,28,29] [(5,I da.1),(6,I da.2)] fun a hS=>?_
 refine rPe T hS [] [(33,B (da.2 != 0))] fun a hS=>?_
 refine aJ hS (b:=(da.2 != 0)) kr (fun hb=>?_) fun hb=>?_
 ·replace hm:=hm.1 hb
  refine rP T hS ⟨[(2,I da.1),(3,I da.2)],[]⟩ fun a hS=>?_
  refine aY ?_
  exact fin T hS hO (fun c=>c) rfl (r:=[.int .i64 da.1,.int .i64 da.2]) kr (fun X' hM hC=>⟨(da.1,da.2),hm,rfl⟩)
 replace hm:=hm.2 hb
 refine aM ?_
 refine bq ?_
 refine op1 (pF kI tI false 1037 hS kr kr ?_)
 intro cY a wT A1 hE h118 hS
 replace hO:=hO.m2 hE
 replace h102:=h102.m1 hE
 replace h103:=h103.m1 hE
 refine ePe T hS [5,6,33,36] [(7,V (.map (some cY)))] fun a hS=>?_
 refine cb (fun a w=>∃ Z X,VC23_J2 h_ Q/\St Tryz.f23.ntmps ⟨[(1,Pt 2 0)],[(2,(25,[Sl a1 h_.ae c1,Sl a2 h_.aq c2]))]⟩ Z a w X/\Old w0 X0 w X/\RS aB w X a1 h_.ae c1/\RS aP w X a2 h_.aq c2) ?_ ?_
 ·refine rPe T hS [] [(38,Sl a2 h_.aq c2),(39,I (lN h_.aq)),(40,I 0)] fun a hS=>?_
  refine aN ?_
  obtain ⟨I1,μ1,cx,hm⟩:=hm
  refine ct (σ:=(List (Int × Int)) × Int) (fun s a w=>∃ Z X,I1 s.1 s.2/\St Tryz.f23.ntmps ⟨[(1,Pt 2 0),(7,V (.map (some cY))),(38,Sl a2 h_.aq c2),(39,I (lN h_.aq)),(40,I s.2)],[(2,(25,[Sl a1 h_.ae c1,Sl a2 h_.aq c2]))]⟩ Z a w X/\Old w0 X0 w X/\OM kI tI false w X 1037 cY s.1/\RS aP w X a2 h_.aq c2/\RS aB w X a1 h_.ae c1/\RS aP w X a2 h_.aq c2) (fun s=>μ1 s.1 s.2) (⟨([]:List (Int × Int)),0⟩) ?_ ?_
  ·exact ⟨Z,_,cx,hS.sl _,hO,h118,h103,h102,h103⟩
  rintro ⟨iK,ea⟩ a zG ⟨Z,Dj,hI,hS,hO,h122,h123,h125,h126⟩
  replace hm:=hm iK ea hI
  clear hI cx
  refine rPe T hS [] [(41,B (decide (ea < (lN h_.aq))))] fun a hS=>?_
  refine bg ?_
  refine aJ hS (b:=decide (ea < (lN h_.aq))) kr (fun hb=>?_) fun hb=>?_
  ·replace hm:=hm.1 hb
   refine aM (bg ?_)
   refine aN ?_
   refine bq ?_
   refine oPe T hS 1 [41] [(42,I ea)] fun a hS=>?_
   obtain ⟨hq,hm⟩:=hm
   refine op1 (index (e:=63) (k:=.i64) T hS kr kr kr kr h123 kr kr hq.1 hq.2 ?_)
   intro N8 a h128 hS
   refine op1 (eU T hS kr kr kr h128 kr kr ?_)
   intro v129 a hv hS
   subst hv
   refine eM T hS ⟨[(1,Pt 2 0),(7,V (.map (some cY))),(8,I ea),(9,Pt 10 0),(38,Sl a2 h_.aq c2),(39,I (lN h_.aq)),(40,I ea)],[(2,(25,[Sl a1 h_.ae c1,Sl a2 h_.aq c2])),(10,(63,[I ((gi h_.aq ea).aA),I (((gi h_.aq ea).aW).bo),I (((gi h_.aq ea).aW).ak),I (((gi h_.aq ea).aW).N)]))]⟩ fun Z a ti xW hS hE hr=>?_
   replace hO:=hO.m2 hE
   replace h122:=h122.m2 hE
   replace h123:=h123.m1 hE
   replace h125:=h125.m1 hE
   replace h126:=h126.m1 hE
   clear hE hr
   refine bg ?_
   refine aN ?_
   refine rPe T hS [] [(45,B ((decide (((gi h_.aq ea).aA) < 0)) || (decide (((gi h_.aq ea).aA)≥(lN h_.ae)))))] (sp:=[49]) fun a hS=>?_
   refine aJ hS (b:=((decide (((gi h_.aq ea).aA) < 0)) || (decide (((gi h_.aq ea).aA)≥(lN h_.ae))))) kr (fun hb=>?_) fun hb=>?_
   ·replace hm:=hm.1 hb
    refine rP T hS ⟨[(2,I ea),(3,I 2)],[]⟩ fun a hS=>?_
    refine aY ?_
    exact fin T hS hO (fun c=>c) rfl (r:=[.int .i64 ea,.int .i64 2]) kr (fun X' hM hC=>⟨(ea,2),hm,rfl⟩)
   replace hm:=hm.2 hb
   refine cb (fun a w=>∃ (Z:Nat->Nat) (X:Nat->Nat) (gM:Bool),VC23_J3 h_ Q I1 μ1 iK ea gM/\St Tryz.f23.ntmps ⟨[(1,Pt 2 0),(7,V (.map (some cY))),(8,I ea),(9,Pt 10 0),(38,Sl a2 h_.aq c2),(39,I (lN h_.aq)),(40,I ea),(58,B gM)],[(2,(25,[Sl a1 h_.ae c1,Sl a2 h_.aq c2])),(10,(63,[I ((gi h_.aq ea).aA),I (((gi h_.aq ea).aW).bo),I (((gi h_.aq ea).aW).ak),I (((gi h_.aq ea).aW).N)]))]⟩ Z a w X/\Old w0 X0 w X/\OM kI tI false w X 1037 cY iK/\RS aP w X a2 h_.aq c2/\RS aB w X a1 h_.ae c1/\RS aP w X a2 h_.aq c2) ?_ ?_
   ·refine region ?_
    refine oPe T hS 5 [45] [(63,B ((((gi h_.aq ea).aW).bo) == 2))] fun a hS=>?_
    rcases bft ((((gi h_.aq ea).aW).bo) == 2) with hb | hb
    ·replace hS:=hS.lit (t:=63) kr hb
     replace hm:=hm.1 hb
     refine oPe T hS 4 [] [(64,V (.map (some cY))),(67,I (((gi h_.aq ea).aW).ak))] fun a hS=>?_
     refine op1 (kf kI tI false (zv:=.int .i64 0) (z:=0) (((gi h_.aq ea).aW).ak) hS kr kr kr kr Tryz.underlying113 Tryz.underlying3 kr rfl h122 ?_)
     intro v151 a hv hS
     replace hv:tI.R _ _ [v151] _:=hv
     cases hv
     refine ePe T hS [63,64,67,68] [(58,B (((aF iK (((gi h_.aq ea).aW).ak)).getD 0) != ((gi h_.aq ea).aA)))] fun a hS=>?_
     exact ⟨Z,_,(((aF iK (((gi h_.aq ea).aW).ak)).getD 0) != ((gi h_.aq ea).aA)),hm,hS.sl _,hO,h122,h123,h125,h126⟩
    replace hS:=hS.lit (t:=63) kr hb
    replace hm:=hm.2 hb
    refine ePe T hS [63] [(58,B false)] fun a hS=>?_
    exact ⟨Z,_,false,hm,hS.sl _,hO,h122,h123,h125,h126⟩
   rintro a Bm ⟨Z,xX,gM,hm,hS,hO,h130,h131,h133,h134⟩
   unfold VC23_J3 at hm
   refine aJ hS (b:=gM) kr (fun hb=>?_) fun hb=>?_
   ·replace hm:=hm.1 hb
    refine rP T hS ⟨[(2,I ea),(3,I 32)],[]⟩ fun a hS=>?_
    refine aY ?_
    exact fin T hS hO (fun c=>c) rfl (r:=[.int .i64 ea,.int .i64 32]) kr (fun X' hM hC=>⟨(ea,32),hm,rfl⟩)
   replace hm:=hm.2 hb
   refine cb (fun a w=>∃ (Z:Nat->Nat) (X:Nat->Nat) (DM:Bool),VC23_J4 h_ Q I1 μ1 iK ea DM/\St Tryz.f23.ntmps ⟨[(1,Pt 2 0),(7,V (.map (some cY))),(8,I ea),(9,Pt 10 0),(38,Sl a2 h_.aq c2),(39,I (lN h_.aq)),(40,I ea),(74,B DM)],[(2,(25,[Sl a1 h_.ae c1,Sl a2 h_.aq c2])),(10,(63,[I ((gi h_.aq ea).aA),I (((gi h_.aq ea).aW).bo),I (((gi h_.aq ea).aW).ak),I (((gi h_.aq ea).aW).N)]))]⟩ Z a w X/\Old w0 X0 w X/\OM kI tI false w X 1037 cY iK/\RS aP w X a2 h_.aq c2/\RS aB w X a1 h_.ae c1/\RS aP w X a2 h_.aq c2) ?_ ?_
   ·refine iB [2,10] mixed hS ?_
    intro qn sa hS hE hD hH
    replace hO:=hO.m2 hE
    replace h130:=h130.m2 hE
    replace h131:=h131.m1 hE
    replace h133:=h133.m1 hE
    replace h134:=h134.m1 hE
    refine tke T [0,1,2,3,4] [2,10] hS hH #[true,true,true,true,true,false,false,false,false,false,false,false,false,false,false,false,false,false] 13 [] [(79,B ((((gi h_.aq ea).aW).bo) == 1))] fun a hS=>?_
    rcases bft ((((gi h_.aq ea).aW).bo) == 1) with hb | hb
    ·replace hS:=hS.lit (t:=79) kr hb
     replace hm:=hm.1 hb
     refine tke T [5,8,10,6,9,11,7] [2,10] hS hH #[true,true,true,true,true,true,true,true,true,true,true,true,false,false,false,false,false,false] 6 [] [(82,I (((gi h_.aq ea).aW).N)),(84,Sl a1 h_.ae c1),(86,I ((gi h_.aq ea).aA))] fun a hS=>?_
     obtain ⟨hq,hm⟩:=hm
     refine dm (e:=48) (k:=.i64) T 12 hS kr kr kr (by rfl) kr hH kr kr h133 kr kr hq.1 hq.2 ?_
     intro SJ a h145 hS
     have Jl:=h145.here
     refine dE (off:=1) (fsz:=1) (ft:=3) (TF:=tI) (y:=(gi h_.ae ((gi h_.aq ea).aA)).az) 13 T hS kr kr kr (by rfl) kr hH kr h145 kr kr kr (fun cs h=>nt h) ?_
     intro SI a h147 fR hS
     have FW:=Jl
     rw [← fR] at FW
     clear fR
     refine eu T 14 hS kr kr kr (by rfl) kr hH kr h147 FW rfl kr ?_
     intro v148 a hv hS
     cases hv
     refine tke T [15,16,17] [2,10] hS hH (tts 18) 0 [79,82,84,86,87,88,89] [(74,B (decide ((((gi h_.aq ea).aW).N)≥((gi h_.ae ((gi h_.aq ea).aA)).az))))] fun a hS=>?_
     refine aX kr ?_
     replace hS:=hS.sle [] []
     exact ⟨Z,_,decide ((((gi h_.aq ea).aW).N)≥((gi h_.ae ((gi h_.aq ea).aA)).az)),hm,hS.sl _,hO,h130,h131,h133,h134⟩
    replace hS:=hS.lit (t:=79) kr hb
    replace hm:=hm.2 hb
    refine tke T [5,8,10,6,9,11,7,12,13,14,15,16,17] [2,10] hS hH (tts 18) 0 [79] [(74,B false)] fun a hS=>?_
    refine aX kr ?_
    replace hS:=hS.sle [] []
    exact ⟨Z,_,false,hm,hS.sl _,hO,h130,h131,h133,h134⟩
   rintro a Bn ⟨Z,xY,DM,hm,hS,hO,h135,h136,h138,h139⟩
   unfold VC23_J4 at hm
   refine aJ hS (b:=DM) kr (fun hb=>?_) fun hb=>?_
   ·replace hm:=hm.1 hb
    refine rP T hS ⟨[(2,I ea),(3,I 31)],[]⟩ fun a hS=>?_
    refine aY ?_
    exact fin T hS hO (fun c=>c) rfl (r:=[.int .i64 ea,.int .i64 31]) kr (fun X' hM hC=>⟨(ea,31),hm,rfl⟩)
   replace hm:=hm.2 hb
   refine aM ?_
   refine region ?_
   refine oP T hS 6 ⟨[(1,Pt 2 0),(7,V (.map (some cY))),(38,Sl a2 h_.aq c2),(39,I (lN h_.aq)),(40,I ea),(93,V (.map (some cY))),(96,I (((gi h_.aq ea).aW).ak)),(98,I ((gi h_.aq ea).aA))],[(2,(25,[Sl a1 h_.ae c1,Sl a2 h_.aq c2]))]⟩ fun a hS=>?_
   refine op1 (tU kI tI false (v:=I ((gi h_.aq ea).aA)) (u:=(gi h_.aq ea).aA) (((gi h_.aq ea).aW).ak) hS kr kr kr kr Tryz.underlying113 Tryz.underlying3 kr h135 rfl ?_)
   intro a zH hE h141 hS
   clear h135
   replace hO:=hO.m2 hE
   replace h136:=h136.m1 hE
   replace h138:=h138.m1 hE
   replace h139:=h139.m1 hE
   refine gY ?_
   refine region (ePe T hS [] [(40,I (wR (ea+1)))] fun a hS=>?_)
   exact ⟨⟨dv iK (((gi h_.aq ea).aW).ak) ((gi h_.aq ea).aA),wR (ea+1)⟩,⟨Z,_,hm.1,hS.sl _,hO,h141,h136,h138,h139⟩,hm.2⟩
  replace hm:=hm.2 hb
  refine cm (by rfl) ?_
  exact ⟨Z,_,hm,hS.sl _,hO,h125,h126⟩
 rintro a zF ⟨Z,AX,hm,hS,hO,h119,h120⟩
 unfold VC23_J2 at hm
 refine rP T hS ⟨[(2,I (lN h_.aq)),(3,I 0)],[]⟩ fun a hS=>?_
 refine aY ?_
 exact fin T hS hO (fun c=>c) rfl (r:=[.int .i64 (lN h_.aq),.int .i64 0]) kr (fun X' hM hC=>⟨((lN h_.aq),0),hm,rfl⟩)
theorem C23 (Cc:S47) (xz:S54_52) (GM:S55) (v:∀ (h_:al),gl h_->VC23 h_ (fun r=>r=aE h_)):S23:=by
 intro w X h_ a1 c1 a2 c2   hp h1 h2
 refine (W23 Cc xz GM w X h_ a1 c1 a2 c2   _ (v h_ hp) h1 h2).mono ?_
 rintro _ _ _ _ ⟨r,rfl,h⟩
 exact h
theorem W45 (w0) (X0) (l_:List aG) (a1) (c1) (Q:(List aw)->Prop) (hm:VC45 l_ Q) (h1:RS bG w0 X0 a1 l_ c1) :
  Ret Tryz.prog 45 #[.slice a1 l_.length c1] aL w0 X0 (fun w X' v=>∃ r,Q r/\∃ cz cy,v=.slice cz r.length cy/\RS aR w X' cz r cy):=by
 unfold VC45 at hm
 replace hm:=hm (h1.sm kr)
 refine enter Tryz.func45 rfl (vals:=[.slice a1 l_.length c1]) kr ?_
 intro Z a hS hO hM
 replace h1:=h1.m0 hM
 refine rPe T hS [] [] fun a hS=>?_
 refine rPe T hS [] [(3,V (.slice none 0 0))] fun a hS=>?_
 refine cb (fun a w=>∃ (Z:Nat->Nat) (X:Nat->Nat) (bE:List aw) (dy:Option Addr) (dx:Nat),VC45_J1 Q bE/\St Tryz.f45.ntmps ⟨[(3,Sl dy bE dx)],[]⟩ Z a w X/\Old w0 X0 w X/\OS aR 61 w X 1003 dy bE dx) ?_ ?_
 ·refine rPe T hS [] [(4,I 0)] fun a hS=>?_
  refine aN ?_
  obtain ⟨I1,μ1,cx,hm⟩:=hm
  refine ct (σ:=(List aw) × Int) (fun s a w=>∃ Z X cI cH,I1 s.1 s.2/\St Tryz.f45.ntmps ⟨[(0,Sl a1 l_ c1),(3,Sl cI s.1 cH),(4,I s.2)],[]⟩ Z a w X/\Old w0 X0 w X/\RS bG w X a1 l_ c1/\OS aR 61 w X 1003 cI s.1 cH) (fun s=>μ1 s.1 s.2) (⟨[],0⟩) ?_ ?_
  ·exact ⟨Z,_,none,0,cx,hS.sl _,hO,h1,(OS.nil _ _ _ _ _)⟩
  rintro ⟨dD,db⟩ a rV ⟨Z,p9,cI,cH,hI,hS,hO,h107,h111⟩
  replace hm:=hm dD db hI
  clear hI cx
  refine bg ?_
  refine rPe T hS [] [(8,B (decide (db < (lN l_))))] fun a hS=>?_
  refine aJ hS (b:=decide (db < (lN l_))) kr (fun hb=>?_) fun hb=>?_
  ·replace hm:=hm.1 hb
   refine aM (bg ?_)
   refine aN ?_
   refine region ?_
   refine oPe T hS 3 [8] [(11,Sl cI dD cH),(12,Sl a1 l_ c1),(13,I db)] fun a hS=>?_
   obtain ⟨hq,hm⟩:=hm
   refine op1 (index (e:=77) (k:=.i64) T hS kr kr kr kr h107 kr kr hq.1 hq.2 ?_)
   intro HP a h114 hS
   refine op1 (fw (off:=1) (fsz:=3) (ft:=61) (TF:=aR) (y:=(gi l_ db).aW) T hS kr kr kr h114 kr kr kr (fun cs h=>kG h) ?_)
   intro Oc a h116 hS
   refine op1 (eU T hS kr kr kr h116 kr kr ?_)
   intro v117 a hv hS
   subst hv
   refine op1 (lit (E:=61) (col:=0) (T:=aR) (vals:=[.agg #[.int .i64 (((gi l_ db).aW).bo),.int .i64 (((gi l_ db).aW).ak),.int .i64 (((gi l_ db).aW).N)]]) (ys:=[(gi l_ db).aW]) T hS kr kr kr kr (by exact ⟨rfl,trivial⟩) rfl kr kr kr kr ?_)
   intro b118 a uL A0 hE h121 hN hS
   clear hN
   replace hO:=hO.m2 hE
   replace h107:=h107.m1 hE
   replace h111:=h111.m2 hE
   replace h114:=h114.m1 hE
   replace h116:=h116.m1 hE
   replace h121:=h121.rs0
   obtain ⟨hq,hm⟩:=hm
   obtain ⟨news,hN⟩:=h121.src
   refine op1 (append (E:=61) (T:=aR) (col:=1003) (xs:=dD) T hS kr kr kr kr h111 hN kr kr kr kr hq ?_)
   intro ja iY a uK uA hE h124 hS
   clear hq hN
   clear h111
   replace hO:=hO.m2 hE
   replace h107:=h107.m1 hE
   replace h114:=h114.m1 hE
   replace h116:=h116.m1 hE
   replace h121:=h121.m1 hE
   refine ePe T hS [12,13,14,15,16,17,18] [(3,Sl ja (dD++[(gi l_ db).aW]) iY)] fun a hS=>?_
   refine region (ePe T hS [] [(4,I (wR (db+1)))] fun a hS=>?_)
   exact ⟨⟨dD++[(gi l_ db).aW],wR (db+1)⟩,⟨Z,_,ja,iY,hm.1,hS.sl _,hO,h107,h124⟩,hm.2⟩
  replace hm:=hm.2 hb
  refine cm (by rfl) ?_
  exact ⟨Z,_,dD,cI,cH,hm,hS.sl _,hO,h111⟩
 rintro a uI ⟨Z,sb,bE,dy,dx,hm,hS,hO,h104⟩
 unfold VC45_J1 at hm
 refine rPe T hS [3] [(2,Sl dy bE dx)] fun a hS=>?_
 refine aY ?_
 obtain ⟨pt,hE,hF⟩:=h104.freeze (by decide)
 replace hS:=hS.ev hE (cA kr)
 replace hO:=hO.m2 hE
 have h106:=hF; clear hE hF
 exact fin T hS hO (fun c=>c) rfl (r:=[.slice dy bE.length dx]) kr (fun X' hM hC=>⟨bE,hm,dy,dx,rfl,h106.m0 hM⟩)
theorem C45 (v:∀ (l_:List aG),ss l_->VC45 l_ (fun r=>r=cv l_)):S45:=by
 intro w X l_ a1 c1   hp h1
 refine (W45 w X l_ a1 c1   _ (v l_ hp) h1).mono ?_
 rintro _ _ _ _ ⟨r,rfl,h⟩
 exact h
theorem W59 (w0) (X0) (l_:List aG) (at_:Int) (a1) (c1) (Q:Int->Prop) (hm:VC59 l_ at_ Q) (h1:RS bG w0 X0 a1 l_ c1) :
  Ret Tryz.prog 59 #[.slice a1 l_.length c1,.int .i64 at_] aL w0 X0 (fun w X' v=>∃ r,Q r/\v=.int .i64 r):=by
 unfold VC59 at hm
 replace hm:=hm (h1.sm kr)
 refine enter Tryz.func59 rfl (vals:=[.slice a1 l_.length c1,.int .i64 at_]) kr ?_
 intro Z a hS hO hM
 replace h1:=h1.m0 hM
 refine rPe T hS [] [] fun a hS=>?_
 refine cb (fun a w=>∃ Z X,VC59_J1 Q/\St Tryz.f59.ntmps ⟨[],[]⟩ Z a w X/\Old w0 X0 w X) ?_ ?_
 ·refine rPe T hS [] [(5,I (wR (at_ - 1)))] fun a hS=>?_
  refine aN ?_
  obtain ⟨I1,μ1,cx,hm⟩:=hm
  refine ct (σ:=Int) (fun s a w=>∃ Z X,I1 s/\St Tryz.f59.ntmps ⟨[(0,Sl a1 l_ c1),(1,I at_),(5,I s)],[]⟩ Z a w X/\Old w0 X0 w X/\RS bG w X a1 l_ c1) (fun s=>μ1 s) (wR (at_ - 1)) ?_ ?_
  ·exact ⟨Z,_,cx,hS.sl _,hO,h1⟩
  rintro bC a zJ ⟨Z,x5,hI,hS,hO,h101⟩
  replace hm:=hm bC hI
  clear hI cx
  refine bg ?_
  refine rPe T hS [] [(9,B (decide (bC≥0)))] fun a hS=>?_
  refine aJ hS (b:=decide (bC≥0)) kr (fun hb=>?_) fun hb=>?_
  ·replace hm:=hm.1 hb
   refine aM (bg ?_)
   refine aN ?_
   refine dG [] mixed hS ?_
   intro Lf R2 hS hE hD hH
   replace hO:=hO.m2 hE
   replace h101:=h101.m1 hE
   refine tke T [0,1,6,7] [] hS hH #[true,true,false,false,false,false,true,true,false,false,false,false,false] 9 [] [(12,Sl a1 l_ c1),(13,I bC),(18,Sl a1 l_ c1),(19,I at_)] fun a hS=>?_
   obtain ⟨hq,hm⟩:=hm
   refine dm (e:=77) (k:=.i64) T 2 hS kr kr kr (by rfl) kr hH kr kr h101 kr kr hq.1 hq.2 ?_
   intro ya a h106 hS
   have rq:=h106.here
   refine dE (off:=1) (fsz:=3) (ft:=61) (TF:=aR) (y:=(gi l_ bC).aW) 3 T hS kr kr kr (by rfl) kr hH kr h106 kr kr kr (fun cs h=>kG h) ?_
   intro HQ a h108 fR hS
   have zm:=rq
   rw [← fR] at zm
   clear fR
   refine dE (off:=1) (fsz:=1) (ft:=3) (TF:=tI) (y:=((gi l_ bC).aW).ak) 4 T hS kr kr kr (by rfl) kr hH kr h108 kr kr kr (fun cs h=>ig h) ?_
   intro A4 a h110 fR hS
   have mC:=zm
   rw [← fR] at mC
   clear fR
   refine eu T 5 hS kr kr kr (by rfl) kr hH kr h110 mC rfl kr ?_
   intro v111 a hv hS
   cases hv
   obtain ⟨hq,hm⟩:=hm
   refine dm (e:=77) (k:=.i64) T 8 hS kr kr kr (by rfl) kr hH kr kr h101 kr kr hq.1 hq.2 ?_
   intro Ku a h113 hS
   have Cz:=h113.here
   refine dE (off:=1) (fsz:=3) (ft:=61) (TF:=aR) (y:=(gi l_ at_).aW) 9 T hS kr kr kr (by rfl) kr hH kr h113 kr kr kr (fun cs h=>kG h) ?_
   intro E9 a h115 fR hS
   have rp:=Cz
   rw [← fR] at rp
   clear fR
   refine dE (off:=1) (fsz:=1) (ft:=3) (TF:=tI) (y:=((gi l_ at_).aW).ak) 10 T hS kr kr kr (by rfl) kr hH kr h115 kr kr kr (fun cs h=>ig h) ?_
   intro HO a h117 fR hS
   have ov:=rp
   rw [← fR] at ov
   clear fR
   refine eu T 11 hS kr kr kr (by rfl) kr hH kr h117 ov rfl kr ?_
   intro v118 a hv hS
   cases hv
   refine tke T [12] [] hS hH (tts 13) 0 [12,13,18,19,14,15,16,17,20,21,22,23] [(24,B ((((gi l_ bC).aW).ak) == (((gi l_ at_).aW).ak)))] fun a hS=>?_
   refine aX kr ?_
   replace hS:=hS.sle [] []
   refine aJ hS (b:=((((gi l_ bC).aW).ak) == (((gi l_ at_).aW).ak))) kr (fun hb=>?_) fun hb=>?_
   ·replace hm:=hm.1 hb
    refine bq ?_
    refine oPe T hS 2 [0,1,5,24] [(25,Sl a1 l_ c1),(26,I bC)] fun a hS=>?_
    obtain ⟨hq,hm⟩:=hm
    refine op1 (index (e:=77) (k:=.i64) T hS kr kr kr kr h101 kr kr hq.1 hq.2 ?_)
    intro Oa a h120 hS
    refine op1 (fw (off:=0) (fsz:=1) (ft:=3) (TF:=tI) (y:=(gi l_ bC).aA) T hS kr kr kr h120 kr kr kr (fun cs h=>mF h) ?_)
    intro HM a h122 hS
    refine op1 (dW T hS kr kr kr h122 rfl kr ?_)
    intro v123 a hv hS
    cases hv
    refine ePe T hS [25,26,27,28,29] [(4,I ((gi l_ bC).aA))] fun a hS=>?_
    refine aY ?_
    exact fin T hS hO (fun c=>c) rfl (r:=[.int .i64 ((gi l_ bC).aA)]) kr (fun X' hM hC=>⟨((gi l_ bC).aA),hm,rfl⟩)
   replace hm:=hm.2 hb
   refine aM ?_
   refine region (ePe T hS [24] [(5,I (wR (bC - 1)))] fun a hS=>?_)
   exact ⟨wR (bC - 1),⟨Z,_,hm.1,hS.sl _,hO,h101⟩,hm.2⟩
  replace hm:=hm.2 hb
  refine cm (by rfl) ?_
  exact ⟨Z,_,hm,hS.sl _,hO⟩
 rintro a uJ ⟨Z,x4,hm,hS,hO⟩
 unfold VC59_J1 at hm
 refine rPe T hS [] [(4,I (-1))] fun a hS=>?_
 refine aY ?_
 exact fin T hS hO (fun c=>c) rfl (r:=[.int .i64 (-1)]) kr (fun X' hM hC=>⟨(-1),hm,rfl⟩)
theorem C59 (v:∀ (l_:List aG) (at_:Int),tL l_ at_->VC59 l_ at_ (fun r=>r=fG l_ at_)):S59:=by
 intro w X l_ at_ a1 c1   hp h1
 refine (W59 w X l_ at_ a1 c1   _ (v l_ at_ hp) h1).mono ?_
 rintro _ _ _ _ ⟨r,rfl,h⟩
 exact h
end Go.Proofs.YteahldlmkheleaaGreat
