import Derived.Test.YteahldlmkheleaaGreatLWalksS
set_option linter.all false
namespace Go.Proofs.YteahldlmkheleaaGreat
open Go Go.Sv
set_option maxHeartbeats 1000000
theorem W19 (w0) (X0) (dL:List Int) (i_:Int) (a1) (c1) (Q:Int->Prop) (hm:VC19 dL i_ Q) (h1:RS tI w0 X0 a1 dL c1) :
  Ret Tryz.prog 19 #[.slice a1 dL.length c1,.int .i64 i_] aJ w0 X0 (fun w X' v=>∃ r,Q r/\v=.int .i64 r):=by
 unfold VC19 at hm
 replace hm:=hm (h1.sm kr)
 refine enter Tryz.func19 rfl (vals:=[.slice a1 dL.length c1,.int .i64 i_]) kr ?_
 intro Z a hS hO hM
 replace h1:=h1.m0 hM
 refine rPe T hS [] [] fun a hS=>?_
 refine rPe T hS [] [(5,I 0)] fun a hS=>?_
 refine b5 (fun a w=>∃ (Z:Nat->Nat) (X:Nat->Nat) (bv:Int),VC19_J1 Q bv/\St Tryz.f19.ntmps ⟨[(5,I bv)],[]⟩ Z a w X/\Old w0 X0 w X) ?_ ?_
 ·refine rPe T hS [] [(6,I 0)] fun a hS=>?_
  refine aN ?_
  obtain ⟨I1,μ1,cy,hm⟩:=hm
  refine cw (σ:=Int × Int) (fun s a w=>∃ Z X,I1 s.1 s.2/\St Tryz.f19.ntmps ⟨[(0,Sl a1 dL c1),(1,I i_),(5,I s.1),(6,I s.2)],[]⟩ Z a w X/\Old w0 X0 w X/\RS tI w X a1 dL c1) (fun s=>μ1 s.1 s.2) (⟨0,0⟩) ?_ ?_
  ·exact ⟨Z,_,cy,hS.sl _,hO,h1⟩
  rintro ⟨be,fD⟩ a yF ⟨Z,wZ,hI,hS,hO,h102⟩
  replace hm:=hm be fD hI
  clear hI cy
  refine bd ?_
  refine rPe T hS [] [(9,B (decide (fD < i_)))] fun a hS=>?_
  refine aF hS (b:=decide (fD < i_)) kr (fun hb=>?_) fun hb=>?_
  ·replace hm:=hm.1 hb
   refine aL ?_
   refine b5 (fun a w=>∃ (Z:Nat->Nat) (X:Nat->Nat) (d9:Int),VC19_J2 I1 μ1 be fD d9/\St Tryz.f19.ntmps ⟨[(0,Sl a1 dL c1),(1,I i_),(5,I d9),(6,I fD)],[]⟩ Z a w X/\Old w0 X0 w X/\RS tI w X a1 dL c1) ?_ ?_
   ·refine aN ?_
    refine dq [] mixed hS ?_
    intro pu oG hS hE hD hH
    replace hO:=hO.m2 hE
    replace h102:=h102.m1 hE
    refine tke T [0,1,4,5] [] hS hH #[true,true,false,false,true,true,false,false,false] 5 [] [(12,Sl a1 dL c1),(13,I fD),(16,Sl a1 dL c1),(17,I i_)] fun a hS=>?_
    obtain ⟨hq,hm⟩:=hm
    refine c6 (e:=3) (k:=.i64) T 2 hS kr kr kr (by rfl) kr hH kr kr h102 kr kr hq.1 hq.2 ?_
    intro w8 a h110 hS
    have kM:=h110.here
    refine dF T 3 hS kr kr kr (by rfl) kr hH kr h110 kM rfl kr ?_
    intro v111 a hv hS
    cases hv
    obtain ⟨hq,hm⟩:=hm
    refine c6 (e:=3) (k:=.i64) T 6 hS kr kr kr (by rfl) kr hH kr kr h102 kr kr hq.1 hq.2 ?_
    intro Gg a h113 hS
    have uQ:=h113.here
    refine dF T 7 hS kr kr kr (by rfl) kr hH kr h113 uQ rfl kr ?_
    intro v114 a hv hS
    cases hv
    refine tke T [8] [] hS hH (tts 9) 0 [12,13,16,17,14,15,18,19] [(20,B ((gi dL fD) == (gi dL i_)))] fun a hS=>?_
    refine aV kr ?_
    replace hS:=hS.sle [] []
    refine aF hS (b:=((gi dL fD) == (gi dL i_))) kr (fun hb=>?_) fun hb=>?_
    ·replace hm:=hm.1 hb
     refine region (ePe T hS [20] [(5,I (wR (be+1)))] fun a hS=>?_)
     exact ⟨Z,_,wR (be+1),hm,hS.sl _,hO,h102⟩
    replace hm:=hm.2 hb
    refine aL ?_
    exact ⟨Z,_,be,hm,hS.sl _,hO,h102⟩
   rintro a tS ⟨Z,DB,d9,hm,hS,hO,h105⟩
   unfold VC19_J2 at hm
   refine region (ePe T hS [] [(6,I (wR (fD+1)))] fun a hS=>?_)
   exact ⟨⟨d9,wR (fD+1)⟩,⟨Z,_,hm.1,hS.sl _,hO,h105⟩,hm.2⟩
  replace hm:=hm.2 hb
  refine cl (by rfl) ?_
  exact ⟨Z,_,be,hm,hS.sl _,hO⟩
 rintro a Ae ⟨Z,zZ,bv,hm,hS,hO⟩
 unfold VC19_J1 at hm
 refine rPe T hS [5] [(4,I bv)] fun a hS=>?_
 refine aZ ?_
 exact fin T hS hO (fun c=>c) rfl (r:=[.int .i64 bv]) kr (fun X' hM hC=>⟨bv,hm,rfl⟩)
theorem C19 (v:∀ (dL:List Int) (i_:Int),xq dL i_->VC19 dL i_ (fun r=>r=dV dL i_)):S19:=by
 intro w X dL i_ a1 c1   hp h1
 refine (W19 w X dL i_ a1 c1   _ (v dL i_ hp) h1).mono ?_
 rintro _ _ _ _ ⟨r,rfl,h⟩
 exact h
theorem W5 (Mk:S11) (Gk:S12) (NQ:S13) (Cb:S15) (G8:S16) (G7:S17) (G6:S18) (NP:S19) (G5:S20) (k6:S6) (k7:S7) (k8:S8) (k9:S9) (w0) (X0) (h_:aj) (a1) (c1) (a2) (c2) (Q:Bool->Prop) (hm:VC5 h_ Q) (h1:RS az w0 X0 a1 h_.ae c1) (h2:RS aI w0 X0 a2 h_.ak c2) :
  Ret Tryz.prog 5 #[.agg #[.slice a1 h_.ae.length c1,.slice a2 h_.ak.length c2]] aJ w0 X0 (fun w X' v=>∃ r,Q r/\v=.bool r):=by
 unfold VC5 at hm
 replace hm:=hm (h1.sm kr)
 replace hm:=hm (h2.sm kr)
 refine enter Tryz.func5 rfl (vals:=[.agg #[.slice a1 h_.ae.length c1,.slice a2 h_.ak.length c2]]) kr ?_
 intro Z a hS hO hM
 replace h1:=h1.m0 hM
 replace h2:=h2.m0 hM
 refine rM T hS ⟨[(1,Pt 2 0)],[(2,(25,[Sl a1 h_.ae c1,Sl a2 h_.ak c2]))]⟩ fun Z a MZ Pj hS hE hr=>?_
 replace hO:=hO.m2 hE
 replace h1:=h1.m1 hE
 replace h2:=h2.m1 hE
 clear hE hr
 refine bd ?_
 refine b5 (fun a w=>∃ (Z:Nat->Nat) (X:Nat->Nat) (bv:Bool),VC5_J1 h_ Q bv/\St Tryz.f5.ntmps ⟨[(1,Pt 2 0),(22,B bv)],[(2,(25,[Sl a1 h_.ae c1,Sl a2 h_.ak c2]))]⟩ Z a w X/\Old w0 X0 w X/\RS az w X a1 h_.ae c1/\RS aI w X a2 h_.ak c2) ?_ ?_
 ·refine region ?_
  refine oPe T hS 1 [] [(15,V (.agg #[.slice a1 h_.ae.length c1,.slice a2 h_.ak.length c2]))] fun a hS=>?_
  refine op1 (call hS kr kr hb6 kr (fun _ _=>rfl) (k6 _ _ h_ a1 c1 a2 c2 h1 h2) ?_)
  intro v274 a M5 Pm hE hp hS
  replace hO:=hO.m2 hE
  replace h1:=h1.m1 hE
  replace h2:=h2.m1 hE
  obtain ⟨v1,hr⟩:∃ r,gQ h_=r:=⟨_,rfl⟩
  replace hm:=hm v1 hr
  rw [hr] at hp
  clear hr
  subst hp
  refine oPe T hS 2 [15,16] [(18,B (!v1))] fun a hS=>?_
  rcases bft (!v1) with hb | hb
  ·replace hS:=hS.lit (t:=18) kr hb
   replace hm:=hm.1 hb
   refine ePe T hS [18] [(22,B true)] fun a hS=>?_
   exact ⟨Z,_,true,hm,hS.sl _,hO,h1,h2⟩
  replace hS:=hS.lit (t:=18) kr hb
  replace hm:=hm.2 hb
  refine oPe T hS 1 [] [(19,V (.agg #[.slice a1 h_.ae.length c1,.slice a2 h_.ak.length c2]))] fun a hS=>?_
  refine op1 (call hS kr kr hb7 kr (fun _ _=>rfl) (k7 _ _ h_ a1 c1 a2 c2 h1 h2) ?_)
  intro v278 a M3 Pk hE hp hS
  replace hO:=hO.m2 hE
  replace h1:=h1.m1 hE
  replace h2:=h2.m1 hE
  obtain ⟨yR,hr⟩:∃ r,eY h_=r:=⟨_,rfl⟩
  replace hm:=hm yR hr
  rw [hr] at hp
  clear hr
  subst hp
  refine ePe T hS [18,19,20] [(22,B (decide (yR > 8)))] fun a hS=>?_
  exact ⟨Z,_,decide (yR > 8),hm,hS.sl _,hO,h1,h2⟩
 rintro a M1 ⟨Z,Ls,bv,hm,hS,hO,h102,h103⟩
 unfold VC5_J1 at hm
 refine aF hS (b:=bv) kr (fun hb=>?_) fun hb=>?_
 ·replace hm:=hm.1 hb
  refine bn ?_
  refine op1 (call hS kr kr hb8 kr (fun _ _=>rfl) (k8 _ _) ?_)
  intro v104 a mH lB hE hp hS
  replace hO:=hO.m2 hE
  replace h102:=h102.m1 hE
  replace h103:=h103.m1 hE
  obtain ⟨mL,hr⟩:∃ r,fu=r:=⟨_,rfl⟩
  replace hm:=hm mL hr
  rw [hr] at hp
  clear hr
  subst hp
  refine eP T hS ⟨[(2,B mL)],[]⟩ fun a hS=>?_
  refine aZ ?_
  exact fin T hS hO (fun c=>c) rfl (r:=[.bool mL]) kr (fun X' hM hC=>⟨mL,hm,rfl⟩)
 replace hm:=hm.2 hb
 refine aL ?_
 refine bn ?_
 refine oPe T hS 1 [22] [(25,V (.agg #[.slice a1 h_.ae.length c1,.slice a2 h_.ak.length c2]))] fun a hS=>?_
 obtain ⟨hq,hm⟩:=hm
 refine op1 (call hS kr kr hb15 kr (fun _ _=>rfl) (Cb _ _ (⟨h_.ae,h_.ak⟩:aj) a1 c1 a2 c2 hq h102 h103) ?_)
 intro v108 a pm rc hE hp hS
 replace hO:=hO.m2 hE
 replace h102:=h102.m1 hE
 replace h103:=h103.m1 hE
 obtain ⟨d6,d5,hp,h114⟩:=hp
 obtain ⟨bA,hr⟩:∃ r,bP (⟨h_.ae,h_.ak⟩:aj)=r:=⟨_,rfl⟩
 replace hm:=hm bA hr
 rw [hr] at hp h114
 clear hr
 subst hp
 replace hm:=hm (h114.sm kr)
 refine ePe T hS [25,26] [(3,Sl d6 bA.1 d5),(4,I bA.2)] fun a hS=>?_
 refine bn ?_
 refine oPe T hS 1 [] [(30,V (.agg #[.slice a1 h_.ae.length c1,.slice a2 h_.ak.length c2]))] fun a hS=>?_
 obtain ⟨hq,hm⟩:=hm
 refine op1 (call hS kr kr hb9 kr (fun _ _=>rfl) (k9 _ _ (⟨h_.ae,h_.ak⟩:aj) a1 c1 a2 c2 hq h102 h103) ?_)
 intro v115 a tS wZ hE hp hS
 replace hO:=hO.m2 hE
 replace h102:=h102.m1 hE
 replace h103:=h103.m1 hE
 replace h114:=h114.m1 hE
 obtain ⟨gW,hr⟩:∃ r,eQ (⟨h_.ae,h_.ak⟩:aj)=r:=⟨_,rfl⟩
 replace hm:=hm gW hr
 rw [hr] at hp
 clear hr
 subst hp
 refine ePe T hS [30,31] [(5,B gW.1),(6,I gW.2)] fun a hS=>?_
 refine bd ?_
 refine rPe T hS [5,6] [(54,B ((((bA.2 == 0) != gW.1) || ((bA.2 == 41) && (gW.2 != 0))) || ((bA.2 != 0) && ((lN bA.1) != 0))))] (sp:=[38,41,46,49]) fun a hS=>?_
 refine aF hS (b:=((((bA.2 == 0) != gW.1) || ((bA.2 == 41) && (gW.2 != 0))) || ((bA.2 != 0) && ((lN bA.1) != 0)))) kr (fun hb=>?_) fun hb=>?_
 ·replace hm:=hm.1 hb
  refine rP T hS ⟨[(2,B false)],[]⟩ fun a hS=>?_
  refine aZ ?_
  exact fin T hS hO (fun c=>c) rfl (r:=[.bool false]) kr (fun X' hM hC=>⟨false,hm,rfl⟩)
 replace hm:=hm.2 hb
 refine aL (bd ?_)
 refine rPe T hS [4,54] [(56,B (bA.2 != 0))] fun a hS=>?_
 refine aF hS (b:=(bA.2 != 0)) kr (fun hb=>?_) fun hb=>?_
 ·replace hm:=hm.1 hb
  refine bn ?_
  refine op1 (call hS kr kr hb8 kr (fun _ _=>rfl) (k8 _ _) ?_)
  intro v119 a Ae Dz hE hp hS
  replace hO:=hO.m2 hE
  replace h102:=h102.m1 hE
  replace h103:=h103.m1 hE
  replace h114:=h114.m1 hE
  obtain ⟨wk,hr⟩:∃ r,fu=r:=⟨_,rfl⟩
  replace hm:=hm wk hr
  rw [hr] at hp
  clear hr
  subst hp
  refine eP T hS ⟨[(2,B wk)],[]⟩ fun a hS=>?_
  refine aZ ?_
  exact fin T hS hO (fun c=>c) rfl (r:=[.bool wk]) kr (fun X' hM hC=>⟨wk,hm,rfl⟩)
 replace hm:=hm.2 hb
 refine aL (bd ?_)
 refine b5 (fun a w=>∃ (Z:Nat->Nat) (X:Nat->Nat) (dA:Bool),VC5_J2 h_ Q bA dA/\St Tryz.f5.ntmps ⟨[(1,Pt 2 0),(3,Sl d6 bA.1 d5),(70,B dA)],[(2,(25,[Sl a1 h_.ae c1,Sl a2 h_.ak c2]))]⟩ Z a w X/\Old w0 X0 w X/\RS ar w X d6 bA.1 d5/\RS az w X a1 h_.ae c1/\RS aI w X a2 h_.ak c2) ?_ ?_
 ·refine gH [2] mixed hS ?_
  intro Nc Pv hS hE hD hH
  replace hO:=hO.m2 hE
  replace h102:=h102.m1 hE
  replace h103:=h103.m1 hE
  replace h114:=h114.m1 hE
  refine tke T [0,2,4,1] [2] hS hH #[true,true,true,false,true,false,false,false,false,false,false,false,false] 9 [] [(59,Sl a1 h_.ae c1),(60,V (.agg #[.slice a1 h_.ae.length c1,.slice a2 h_.ak.length c2])),(62,Sl d6 bA.1 d5)] fun a hS=>?_
  obtain ⟨hq,hm⟩:=hm
  refine only 3 kr (by rfl) (call hS kr kr hb11 kr (fun _ _=>rfl) (Mk _ _ (⟨h_.ae,h_.ak⟩:aj) a1 c1 a2 c2 hq h102 h103) ?_)
  intro v257 a I6 Lt hE hp hS
  replace hO:=hO.m2 hE
  replace hD:=hD.ev hE rfl
  replace h102:=h102.m1 hE
  replace h103:=h103.m1 hE
  replace h114:=h114.m1 hE
  obtain ⟨Ii,H3,hp,h263⟩:=hp
  obtain ⟨gO,hr⟩:∃ r,eV (⟨h_.ae,h_.ak⟩:aj)=r:=⟨_,rfl⟩
  replace hm:=hm gO hr
  rw [hr] at hp h263
  clear hr
  subst hp
  replace hm:=hm (h263.sm kr)
  replace hS:=hS.sle [] [(61,Sl Ii gO H3)]
  refine cV (bI.of hS (bks:=[2]) kr hD) ?_
  intro hH
  obtain ⟨hq,hm⟩:=hm
  refine only 5 kr (by rfl) (call hS kr kr hb13 kr (fun _ _=>rfl) (NQ _ _ h_.ae gO bA.1 a1 c1 Ii H3 d6 d5 hq h102 h263 h114) ?_)
  intro v264 a Na Pr hE hp hS
  replace hO:=hO.m2 hE
  replace hD:=hD.ev hE rfl
  replace h102:=h102.m1 hE
  replace h103:=h103.m1 hE
  replace h114:=h114.m1 hE
  replace h263:=h263.m1 hE
  obtain ⟨t7,hr⟩:∃ r,fq h_.ae gO bA.1=r:=⟨_,rfl⟩
  replace hm:=hm t7 hr
  rw [hr] at hp
  clear hr
  subst hp
  replace hS:=hS.sle [] [(63,B t7)]
  refine cV (bI.of hS (bks:=[2]) kr hD) ?_
  intro hH
  refine tke T [6,7] [2] hS hH #[true,true,true,true,true,true,true,true,false,false,false,false,false] 5 [59,60,62,61,63] [(65,B (!t7))] fun a hS=>?_
  rcases bft (!t7) with hb | hb
  ·replace hS:=hS.lit (t:=65) kr hb
   replace hm:=hm.1 hb
   refine tke T [8,9,10,11,12] [2] hS hH (tts 13) 0 [65] [(70,B true)] fun a hS=>?_
   refine aV kr ?_
   replace hS:=hS.sle [] []
   exact ⟨Z,_,true,hm,hS.sl _,hO,h114,h102,h103⟩
  replace hS:=hS.lit (t:=65) kr hb
  replace hm:=hm.2 hb
  refine tke T [8,9] [2] hS hH #[true,true,true,true,true,true,true,true,true,true,false,false,false] 3 [] [(66,V (.agg #[.slice a1 h_.ae.length c1,.slice a2 h_.ak.length c2])),(67,Sl d6 bA.1 d5)] fun a hS=>?_
  obtain ⟨hq,hm⟩:=hm
  refine only 10 kr (by rfl) (call hS kr kr hb12 kr (fun _ _=>rfl) (Gk _ _ (⟨h_.ae,h_.ak⟩:aj) bA.1 a1 c1 a2 c2 d6 d5 hq h102 h103 h114) ?_)
  intro v268 a M8 Pp hE hp hS
  replace hO:=hO.m2 hE
  replace hD:=hD.ev hE rfl
  replace h102:=h102.m1 hE
  replace h103:=h103.m1 hE
  replace h114:=h114.m1 hE
  replace h263:=h263.m1 hE
  obtain ⟨v2,hr⟩:∃ r,ec (⟨h_.ae,h_.ak⟩:aj) bA.1=r:=⟨_,rfl⟩
  replace hm:=hm v2 hr
  rw [hr] at hp
  clear hr
  subst hp
  replace hS:=hS.sle [] [(68,B v2)]
  refine cV (bI.of hS (bks:=[2]) kr hD) ?_
  intro hH
  refine tke T [11,12] [2] hS hH (tts 13) 0 [65,66,67,68] [(70,B (!v2))] fun a hS=>?_
  refine aV kr ?_
  replace hS:=hS.sle [] []
  exact ⟨Z,_,(!v2),hm,hS.sl _,hO,h114,h102,h103⟩
 rintro a M6 ⟨Z,Pn,dA,hm,hS,hO,h123,h125,h126⟩
 unfold VC5_J2 at hm
 refine aF hS (b:=dA) kr (fun hb=>?_) fun hb=>?_
 ·replace hm:=hm.1 hb
  refine rP T hS ⟨[(2,B false)],[]⟩ fun a hS=>?_
  refine aZ ?_
  exact fin T hS hO (fun c=>c) rfl (r:=[.bool false]) kr (fun X' hM hC=>⟨false,hm,rfl⟩)
 replace hm:=hm.2 hb
 refine aL ?_
 refine dq [2] mixed hS ?_
 intro si zY hS hE hD hH
 replace hO:=hO.m2 hE
 replace h123:=h123.m1 hE
 replace h125:=h125.m1 hE
 replace h126:=h126.m1 hE
 refine tke T [0,2,1] [2] hS hH #[true,true,true,false,false,false,false,false,false,false] 7 [] [(73,Sl a1 h_.ae c1),(74,V (.agg #[.slice a1 h_.ae.length c1,.slice a2 h_.ak.length c2]))] fun a hS=>?_
 obtain ⟨hq,hm⟩:=hm
 refine only 3 kr (by rfl) (call hS kr kr hb11 kr (fun _ _=>rfl) (Mk _ _ (⟨h_.ae,h_.ak⟩:aj) a1 c1 a2 c2 hq h125 h126) ?_)
 intro v129 a tP BZ hE hp hS
 replace hO:=hO.m2 hE
 replace hD:=hD.ev hE rfl
 replace h123:=h123.m1 hE
 replace h125:=h125.m1 hE
 replace h126:=h126.m1 hE
 obtain ⟨oE,oA,hp,h135⟩:=hp
 obtain ⟨gr,hr⟩:∃ r,eV (⟨h_.ae,h_.ak⟩:aj)=r:=⟨_,rfl⟩
 replace hm:=hm gr hr
 rw [hr] at hp h135
 clear hr
 subst hp
 replace hm:=hm (h135.sm kr)
 replace hS:=hS.sle [] [(75,Sl oE gr oA)]
 refine cV (bI.of hS (bks:=[2]) kr hD) ?_
 intro hH
 obtain ⟨hq,hm⟩:=hm
 refine only 4 kr (by rfl) (call hS kr kr hb16 kr (fun _ _=>rfl) (G8 _ _ h_.ae gr a1 c1 oE oA hq h125 h135) ?_)
 intro v136 a EH F6 hE hp hS
 replace hO:=hO.m2 hE
 replace hD:=hD.ev hE rfl
 replace h123:=h123.m1 hE
 replace h125:=h125.m1 hE
 replace h126:=h126.m1 hE
 replace h135:=h135.m1 hE
 obtain ⟨lV,lT,gc,f9,hp,h142,h145⟩:=hp
 obtain ⟨gq,hr⟩:∃ r,cX h_.ae gr=r:=⟨_,rfl⟩
 replace hm:=hm gq hr
 rw [hr] at hp h142 h145
 clear hr
 subst hp
 replace hm:=hm (h142.sm kr)
 replace hm:=hm (h145.sm kr)
 replace hS:=hS.sle [] [(76,V (.tuple #[.slice lV gq.1.length lT,.slice gc gq.2.length f9]))]
 refine cV (bI.of hS (bks:=[2]) kr hD) ?_
 intro hH
 refine tke T [5,6,7,8,9] [2] hS hH (tts 10) 0 [73,74,75,76] [(8,Sl gc gq.2 f9)] fun a hS=>?_
 refine aV kr ?_
 replace hS:=hS.sle [] []
 refine b5 (fun a w=>∃ Z X,VC5_J3 Q/\St Tryz.f5.ntmps ⟨[],[]⟩ Z a w X/\Old w0 X0 w X) ?_ ?_
 ·refine rPe T hS [] [(9,I 0)] fun a hS=>?_
  refine aN ?_
  obtain ⟨I1,μ1,cy,hm⟩:=hm
  refine cw (σ:=Int) (fun s a w=>∃ Z X,I1 s/\St Tryz.f5.ntmps ⟨[(1,Pt 2 0),(3,Sl d6 bA.1 d5),(8,Sl gc gq.2 f9),(9,I s)],[(2,(25,[Sl a1 h_.ae c1,Sl a2 h_.ak c2]))]⟩ Z a w X/\Old w0 X0 w X/\RS ar w X d6 bA.1 d5/\RS tI w X gc gq.2 f9/\RS az w X a1 h_.ae c1/\RS aI w X a2 h_.ak c2) (fun s=>μ1 s) (0) ?_ ?_
  ·exact ⟨Z,_,cy,hS.sl _,hO,h123,h145,h125,h126⟩
  rintro fC a Nf ⟨Z,Pz,hI,hS,hO,h150,h151,h153,h154⟩
  replace hm:=hm fC hI
  clear hI cy
  refine bd ?_
  refine rPe T hS [] [(83,B (decide (fC < (lN h_.ae))))] fun a hS=>?_
  refine aF hS (b:=decide (fC < (lN h_.ae))) kr (fun hb=>?_) fun hb=>?_
  ·replace hm:=hm.1 hb
   refine aL (bd ?_)
   refine aN ?_
   refine bn ?_
   refine oPe T hS 2 [83] [(86,V (.agg #[.slice a1 h_.ae.length c1,.slice a2 h_.ak.length c2])),(87,I fC)] fun a hS=>?_
   obtain ⟨hq,hm⟩:=hm
   refine op1 (call hS kr kr hb17 kr (fun _ _=>rfl) (G7 _ _ (⟨h_.ae,h_.ak⟩:aj) fC a1 c1 a2 c2 hq h153 h154) ?_)
   intro v155 a GI Dx hE hp hS
   replace hO:=hO.m2 hE
   replace h150:=h150.m1 hE
   replace h151:=h151.m1 hE
   replace h153:=h153.m1 hE
   replace h154:=h154.m1 hE
   obtain ⟨n3,nV,tB,tt,hp,h161,h164⟩:=hp
   obtain ⟨fg,hr⟩:∃ r,dw (⟨h_.ae,h_.ak⟩:aj) fC=r:=⟨_,rfl⟩
   replace hm:=hm fg hr
   rw [hr] at hp h161 h164
   clear hr
   subst hp
   replace hm:=hm (h161.sm kr)
   replace hm:=hm (h164.sm kr)
   refine eM T hS ⟨[(1,Pt 2 0),(3,Sl d6 bA.1 d5),(8,Sl gc gq.2 f9),(9,I fC),(10,Pt 11 0)],[(2,(25,[Sl a1 h_.ae c1,Sl a2 h_.ak c2])),(11,(51,[I fg.aw.aq,I fg.aw.ax,I fg.aw.aE,Sl n3 fg.aw.Rows nV,Sl tB fg.ak tt]))]⟩ fun Z a Ni PA hS hE hr=>?_
   replace hO:=hO.m2 hE
   replace h150:=h150.m1 hE
   replace h151:=h151.m1 hE
   replace h153:=h153.m1 hE
   replace h154:=h154.m1 hE
   replace h161:=h161.m1 hE
   replace h164:=h164.m1 hE
   clear hE hr
   refine bn ?_
   refine oPe T hS 2 [] [(91,Sl tB fg.ak tt)] fun a hS=>?_
   refine op1 (call hS kr kr hb18 kr (fun _ _=>rfl) (G6 _ _ fg.ak tB tt h164) ?_)
   intro v165 a GG F1 hE hp hS
   replace hO:=hO.m2 hE
   replace h150:=h150.m1 hE
   replace h151:=h151.m1 hE
   replace h153:=h153.m1 hE
   replace h154:=h154.m1 hE
   replace h161:=h161.m1 hE
   replace h164:=h164.m1 hE
   obtain ⟨tA,tr,hp,h171⟩:=hp
   obtain ⟨kZ,hr⟩:∃ r,gh fg.ak=r:=⟨_,rfl⟩
   replace hm:=hm kZ hr
   rw [hr] at hp h171
   clear hr
   subst hp
   replace hm:=hm (h171.sm kr)
   refine ePe T hS [91,92] [(11,Sl tA kZ.1 tr)] fun a hS=>?_
   refine rPe T hS [] [(13,V (.slice none 0 0))] fun a hS=>?_
   refine b5 (fun a w=>∃ (Z:Nat->Nat) (X:Nat->Nat) (kV:List aa) (nb:Option Addr) (m7:Nat),VC5_J4 Q I1 μ1 fC fg kZ kV/\St Tryz.f5.ntmps ⟨[(1,Pt 2 0),(3,Sl d6 bA.1 d5),(8,Sl gc gq.2 f9),(9,I fC),(10,Pt 11 0),(11,Sl tA kZ.1 tr),(13,Sl nb kV m7)],[(2,(25,[Sl a1 h_.ae c1,Sl a2 h_.ak c2])),(11,(51,[I fg.aw.aq,I fg.aw.ax,I fg.aw.aE,Sl n3 fg.aw.Rows nV,Sl tB fg.ak tt]))]⟩ Z a w X/\Old w0 X0 w X/\RS ar w X d6 bA.1 d5/\RS tI w X gc gq.2 f9/\RS ao w X tA kZ.1 tr/\OS ar 56 w X 1014 nb kV m7/\RS az w X a1 h_.ae c1/\RS aI w X a2 h_.ak c2/\RS ay w X n3 fg.aw.Rows nV/\RS aO w X tB fg.ak tt) ?_ ?_
   ·refine rPe T hS [] [(14,I 0)] fun a hS=>?_
    refine aN ?_
    obtain ⟨I2,μ2,cy,hm⟩:=hm
    refine cw (σ:=(List aa) × Int) (fun s a w=>∃ Z X tz tq,I2 s.1 s.2/\St Tryz.f5.ntmps ⟨[(1,Pt 2 0),(3,Sl d6 bA.1 d5),(8,Sl gc gq.2 f9),(9,I fC),(10,Pt 11 0),(11,Sl tA kZ.1 tr),(13,Sl tz s.1 tq),(14,I s.2)],[(2,(25,[Sl a1 h_.ae c1,Sl a2 h_.ak c2])),(11,(51,[I fg.aw.aq,I fg.aw.ax,I fg.aw.aE,Sl n3 fg.aw.Rows nV,Sl tB fg.ak tt]))]⟩ Z a w X/\Old w0 X0 w X/\RS ar w X d6 bA.1 d5/\RS tI w X gc gq.2 f9/\RS ao w X tA kZ.1 tr/\OS ar 56 w X 1014 tz s.1 tq/\RS az w X a1 h_.ae c1/\RS aI w X a2 h_.ak c2/\RS ay w X n3 fg.aw.Rows nV/\RS aO w X tB fg.ak tt) (fun s=>μ2 s.1 s.2) (⟨[],0⟩) ?_ ?_
    ·exact ⟨Z,_,none,0,cy,hS.sl _,hO,h150,h151,h171,(OS.nil _ _ _ _ _),h153,h154,h161,h164⟩
    rintro ⟨sd,jp⟩ a Nj ⟨Z,PB,tz,tq,hI,hS,hO,h187,h188,h189,h193,h195,h196,h197,h198⟩
    replace hm:=hm sd jp hI
    clear hI cy
    refine bd ?_
    refine rPe T hS [] [(98,B (decide (jp < (lN bA.1))))] fun a hS=>?_
    refine aF hS (b:=decide (jp < (lN bA.1))) kr (fun hb=>?_) fun hb=>?_
    ·replace hm:=hm.1 hb
     refine aL ?_
     refine b5 (fun a w=>∃ (Z:Nat->Nat) (X:Nat->Nat) (g9:List aa) (Dq:Option Addr) (Dh:Nat),VC5_J5 I2 μ2 sd jp g9/\St Tryz.f5.ntmps ⟨[(1,Pt 2 0),(3,Sl d6 bA.1 d5),(8,Sl gc gq.2 f9),(9,I fC),(10,Pt 11 0),(11,Sl tA kZ.1 tr),(13,Sl Dq g9 Dh),(14,I jp)],[(2,(25,[Sl a1 h_.ae c1,Sl a2 h_.ak c2])),(11,(51,[I fg.aw.aq,I fg.aw.ax,I fg.aw.aE,Sl n3 fg.aw.Rows nV,Sl tB fg.ak tt]))]⟩ Z a w X/\Old w0 X0 w X/\RS ar w X d6 bA.1 d5/\RS tI w X gc gq.2 f9/\RS ao w X tA kZ.1 tr/\OS ar 56 w X 1014 Dq g9 Dh/\RS az w X a1 h_.ae c1/\RS aI w X a2 h_.ak c2/\RS ay w X n3 fg.aw.Rows nV/\RS aO w X tB fg.ak tt) ?_ ?_
     ·refine aN ?_
      refine bn ?_
      refine oPe T hS 3 [98] [(101,Sl gc gq.2 f9),(102,Sl d6 bA.1 d5),(103,I jp)] fun a hS=>?_
      obtain ⟨hq,hm⟩:=hm
      refine op1 (index (e:=56) (k:=.i64) T hS kr kr kr kr h187 kr kr hq.1 hq.2 ?_)
      intro Qh a h211 hS
      refine op1 (fc (off:=0) (fsz:=1) (ft:=3) (TF:=tI) (y:=(gi bA.1 jp).Oper) T hS kr kr kr h211 kr kr kr (fun cs h=>fw h) ?_)
      intro Qg a h213 hS
      refine op1 (eC T hS kr kr kr h213 rfl kr ?_)
      intro v214 a hv hS
      cases hv
      obtain ⟨hq,hm⟩:=hm
      refine op1 (index (e:=3) (k:=.i64) T hS kr kr kr kr h188 kr kr hq.1 hq.2 ?_)
      intro Qf a h216 hS
      refine op1 (eC T hS kr kr kr h216 rfl kr ?_)
      intro v217 a hv hS
      cases hv
      refine ePe T hS [101,102,103,104,105,106,107,108] [(110,B ((gi gq.2 ((gi bA.1 jp).Oper)) == fC))] fun a hS=>?_
      refine aF hS (b:=((gi gq.2 ((gi bA.1 jp).Oper)) == fC)) kr (fun hb=>?_) fun hb=>?_
      ·replace hm:=hm.1 hb
       refine gH [2,11] mixed hS ?_
       intro Nv PM hS hE hD hH
       replace hO:=hO.m2 hE
       replace h187:=h187.m1 hE
       replace h188:=h188.m1 hE
       replace h189:=h189.m1 hE
       replace h193:=h193.m2 hE
       replace h195:=h195.m1 hE
       replace h196:=h196.m1 hE
       replace h197:=h197.m1 hE
       replace h198:=h198.m1 hE
       refine tke T [0,1,2,3,8,9] [2,11] hS hH #[true,true,true,true,false,false,false,false,true,true,false,false,false,false,false,false,false] 11 [] [(111,Sl tz sd tq),(112,Sl gc gq.2 f9),(113,Sl d6 bA.1 d5),(114,I jp),(119,Sl d6 bA.1 d5),(120,I jp)] fun a hS=>?_
       obtain ⟨hq,hm⟩:=hm
       refine c6 (e:=56) (k:=.i64) T 4 hS kr kr kr (by rfl) kr hH kr kr h187 kr kr hq.1 hq.2 ?_
       intro Qe a h221 hS
       have Hy:=h221.here
       refine dh (off:=0) (fsz:=1) (ft:=3) (TF:=tI) (y:=(gi bA.1 jp).Oper) 5 T hS kr kr kr (by rfl) kr hH kr h221 kr kr kr (fun cs h=>fw h) ?_
       intro Qc a h223 fv hS
       have Ei:=Hy
       rw [← fv] at Ei
       clear fv
       refine dF T 6 hS kr kr kr (by rfl) kr hH kr h223 Ei rfl kr ?_
       intro v224 a hv hS
       cases hv
       obtain ⟨hq,hm⟩:=hm
       refine c6 (e:=56) (k:=.i64) T 10 hS kr kr kr (by rfl) kr hH kr kr h187 kr kr hq.1 hq.2 ?_
       intro Qa a h226 hS
       have Hx:=h226.here
       refine dh (off:=1) (fsz:=1) (ft:=3) (TF:=tI) (y:=(gi bA.1 jp).Result) 11 T hS kr kr kr (by rfl) kr hH kr h226 kr kr kr (fun cs h=>vB h) ?_
       intro P8 a h228 fv hS
       have Eh:=Hx
       rw [← fv] at Eh
       clear fv
       refine dF T 12 hS kr kr kr (by rfl) kr hH kr h228 Eh rfl kr ?_
       intro v229 a hv hS
       cases hv
       obtain ⟨hq,hm⟩:=hm
       refine only 7 kr (by rfl) (call hS kr kr hb19 kr (fun _ _=>rfl) (NP _ _ gq.2 ((gi bA.1 jp).Oper) gc f9 hq h188) ?_)
       intro v230 a Nr PH hE hp hS
       replace hO:=hO.m2 hE
       replace hD:=hD.ev hE rfl
       replace h187:=h187.m1 hE
       replace h188:=h188.m1 hE
       replace h189:=h189.m1 hE
       replace h193:=h193.m2 hE
       replace h195:=h195.m1 hE
       replace h196:=h196.m1 hE
       replace h197:=h197.m1 hE
       replace h198:=h198.m1 hE
       replace h221:=h221.m1 hE
       replace h223:=h223.m1 hE
       replace h226:=h226.m1 hE
       replace h228:=h228.m1 hE
       obtain ⟨o7,hr⟩:∃ r,dV gq.2 ((gi bA.1 jp).Oper)=r:=⟨_,rfl⟩
       replace hm:=hm o7 hr
       rw [hr] at hp
       clear hr
       subst hp
       replace hS:=hS.sle [] [(118,I o7)]
       refine cV (bI.of hS (bks:=[2,11]) kr hD) ?_
       intro hH
       refine tke T [13] [2,11] hS hH #[true,true,true,true,true,true,true,true,true,true,true,true,true,true,false,false,false] 3 [112,113,114,119,120,115,116,117,121,122,123,118] [(124,V (.agg #[.int .i64 o7,.int .i64 ((gi bA.1 jp).Result)]))] fun a hS=>?_
       refine only 14 kr (by rfl) (lit (E:=56) (col:=0) (T:=ar) (vals:=[.agg #[.int .i64 o7,.int .i64 ((gi bA.1 jp).Result)]]) (ys:=[(⟨o7,(gi bA.1 jp).Result⟩:aa)]) T hS kr kr kr kr (by exact ⟨rfl,trivial⟩) rfl kr kr kr kr ?_)
       intro b234 a Nn PE hE h237 hN hS
       clear hN
       replace hO:=hO.m2 hE
       replace hD:=hD.ev hE rfl
       replace h187:=h187.m1 hE
       replace h188:=h188.m1 hE
       replace h189:=h189.m1 hE
       replace h193:=h193.m2 hE
       replace h195:=h195.m1 hE
       replace h196:=h196.m1 hE
       replace h197:=h197.m1 hE
       replace h198:=h198.m1 hE
       replace h221:=h221.m1 hE
       replace h223:=h223.m1 hE
       replace h226:=h226.m1 hE
       replace h228:=h228.m1 hE
       replace h237:=h237.rs0
       refine cV (bI.of hS (bks:=[2,11]) kr hD) ?_
       intro hH
       obtain ⟨hq,hm⟩:=hm
       obtain ⟨news,hN⟩:=h237.src
       refine only 15 kr (by rfl) (append (E:=56) (T:=ar) (col:=1014) (xs:=sd) T hS kr kr kr kr h193 hN kr kr kr kr hq ?_)
       intro FU FO a I8 Lx hE h240 hS
       clear hq hN
       clear h193
       replace hO:=hO.m2 hE
       replace hD:=hD.ev hE rfl
       replace h187:=h187.m1 hE
       replace h188:=h188.m1 hE
       replace h189:=h189.m1 hE
       replace h195:=h195.m1 hE
       replace h196:=h196.m1 hE
       replace h197:=h197.m1 hE
       replace h198:=h198.m1 hE
       replace h221:=h221.m1 hE
       replace h223:=h223.m1 hE
       replace h226:=h226.m1 hE
       replace h228:=h228.m1 hE
       replace h237:=h237.m1 hE
       replace hS:=hS.sle [13,111] [(126,Sl FU (sd++[(⟨o7,(gi bA.1 jp).Result⟩:aa)]) FO)]
       refine cV (bI.of hS (bks:=[2,11]) kr hD) ?_
       intro hH
       refine tke T [16] [2,11] hS hH (tts 17) 0 [124,125,126] [(13,Sl FU (sd++[(⟨o7,(gi bA.1 jp).Result⟩:aa)]) FO)] fun a hS=>?_
       refine aV kr ?_
       replace hS:=hS.sle [] []
       exact ⟨Z,_,sd++[(⟨o7,(gi bA.1 jp).Result⟩:aa)],FU,FO,hm,hS.sl _,hO,h187,h188,h189,h240,h195,h196,h197,h198⟩
      replace hm:=hm.2 hb
      refine aL ?_
      exact ⟨Z,_,sd,tz,tq,hm,hS.sl _,hO,h187,h188,h189,h193,h195,h196,h197,h198⟩
     rintro a Nk ⟨Z,PC,g9,Dq,Dh,hm,hS,hO,h199,h200,h201,h205,h206,h207,h208,h209⟩
     unfold VC5_J5 at hm
     refine region (ePe T hS [] [(14,I (wR (jp+1)))] fun a hS=>?_)
     exact ⟨⟨g9,wR (jp+1)⟩,⟨Z,_,Dq,Dh,hm.1,hS.sl _,hO,h199,h200,h201,h205,h206,h207,h208,h209⟩,hm.2⟩
    replace hm:=hm.2 hb
    refine cl (by rfl) ?_
    exact ⟨Z,_,sd,tz,tq,hm,hS.sl _,hO,h187,h188,h189,h193,h195,h196,h197,h198⟩
   rintro a Gw ⟨Z,Lv,kV,nb,m7,hm,hS,hO,h172,h173,h174,h178,h179,h180,h181,h182⟩
   unfold VC5_J4 at hm
   refine bn ?_
   refine oP T hS 4 ⟨[(1,Pt 2 0),(3,Sl d6 bA.1 d5),(8,Sl gc gq.2 f9),(9,I fC),(128,V (.agg #[.int .i64 fg.aw.aq,.int .i64 fg.aw.ax,.int .i64 fg.aw.aE,.slice n3 fg.aw.Rows.length nV])),(129,Sl tA kZ.1 tr),(130,Sl nb kV m7)],[(2,(25,[Sl a1 h_.ae c1,Sl a2 h_.ak c2]))]⟩ fun a hS=>?_
   obtain ⟨hq,hm⟩:=hm
   refine op1 (call hS kr kr hb20 kr (fun _ _=>rfl) (Ret.mI (G5 _ (eu 1014 _) fg.aw kZ.1 kV n3 nV tA tr nb m7 hq (h181.m0 (M0.eu 1014)) (h174.m0 (M0.eu 1014)) h178.eu)) ?_)
   intro v183 a NG LM hE hp hS
   replace hO:=hO.m2 hE
   replace h172:=h172.m1 hE
   replace h173:=h173.m1 hE
   replace h174:=h174.m1 hE
   replace h178:=h178.m2 hE
   replace h179:=h179.m1 hE
   replace h180:=h180.m1 hE
   replace h181:=h181.m1 hE
   obtain ⟨_,hp⟩:=hp
   obtain ⟨v4,hr⟩:∃ r,cY fg.aw kZ.1 kV=r:=⟨_,rfl⟩
   replace hm:=hm v4 hr
   rw [hr] at hp
   clear hr
   subst hp
   refine ePe T hS [128,129,130,131] [(132,B (!v4))] fun a hS=>?_
   refine aF hS (b:=(!v4)) kr (fun hb=>?_) fun hb=>?_
   ·replace hm:=hm.1 hb
    refine rP T hS ⟨[(2,B false)],[]⟩ fun a hS=>?_
    refine aZ ?_
    exact fin T hS hO (fun c=>c) rfl (r:=[.bool false]) kr (fun X' hM hC=>⟨false,hm,rfl⟩)
   replace hm:=hm.2 hb
   refine aL ?_
   refine region (ePe T hS [132] [(9,I (wR (fC+1)))] fun a hS=>?_)
   exact ⟨wR (fC+1),⟨Z,_,hm.1,hS.sl _,hO,h172,h173,h179,h180⟩,hm.2⟩
  replace hm:=hm.2 hb
  refine cl (by rfl) ?_
  exact ⟨Z,_,hm,hS.sl _,hO⟩
 rintro a Nd ⟨Z,Px,hm,hS,hO⟩
 unfold VC5_J3 at hm
 refine bn ?_
 refine op1 (call hS kr kr hb8 kr (fun _ _=>rfl) (k8 _ _) ?_)
 intro v146 a tO wV hE hp hS
 replace hO:=hO.m2 hE
 obtain ⟨lJ,hr⟩:∃ r,fu=r:=⟨_,rfl⟩
 replace hm:=hm lJ hr
 rw [hr] at hp
 clear hr
 subst hp
 refine ePe T hS [133] [(2,B lJ)] fun a hS=>?_
 refine aZ ?_
 exact fin T hS hO (fun c=>c) rfl (r:=[.bool lJ]) kr (fun X' hM hC=>⟨lJ,hm,rfl⟩)
end Go.Proofs.YteahldlmkheleaaGreat
