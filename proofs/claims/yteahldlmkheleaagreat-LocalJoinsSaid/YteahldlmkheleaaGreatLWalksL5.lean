/- Walks of the functions: each returns what its condition asks. -/
import Derived.Test.YteahldlmkheleaaGreatLWalksS
set_option linter.all false
namespace Go.Proofs.YteahldlmkheleaaGreat
open Go Go.Sv
set_option maxHeartbeats 1000000
theorem W19 (w0) (X0) (dW:List Int) (i_:Int) (a1) (c1) (Q:Int->Prop) (hm:VC19 dW i_ Q) (h1:RS tI w0 X0 a1 dW c1) :
  Ret Tryz.prog 19 #[.slice a1 dW.length c1,.int .i64 i_] aM w0 X0 (fun w X' v=>∃ r,Q r/\v=.int .i64 r):=by
 unfold VC19 at hm
 replace hm:=hm (h1.sm kr)
 refine enter Tryz.func19 rfl (vals:=[.slice a1 dW.length c1,.int .i64 i_]) kr ?_
 intro Z a hS hO hM
 replace h1:=h1.m0 hM
 refine rPe T hS [] [] fun a hS=>?_
 refine rPe T hS [] [(5,I 0)] fun a hS=>?_
 refine cb (fun a w=>∃ (Z:Nat->Nat) (X:Nat->Nat) (bD:Int),VC19_J1 Q bD/\St Tryz.f19.ntmps ⟨[(5,I bD)],[]⟩ Z a w X/\Old w0 X0 w X) ?_ ?_
 ·refine rPe T hS [] [(6,I 0)] fun a hS=>?_
  refine aQ ?_
  obtain ⟨I1,μ1,cJ,hm⟩:=hm
  refine cH (σ:=Int × Int) (fun s a w=>∃ Z X,I1 s.1 s.2/\St Tryz.f19.ntmps ⟨[(0,Sl a1 dW c1),(1,I i_),(5,I s.1),(6,I s.2)],[]⟩ Z a w X/\Old w0 X0 w X/\RS tI w X a1 dW c1) (fun s=>μ1 s.1 s.2) (⟨0,0⟩) ?_ ?_
  ·exact ⟨Z,_,cJ,hS.sl _,hO,h1⟩
  rintro ⟨bj,fV⟩ a z5 ⟨Z,yq,hI,hS,hO,h102⟩
  replace hm:=hm bj fV hI
  clear hI cJ
  refine bh ?_
  refine rPe T hS [] [(9,B (decide (fV < i_)))] fun a hS=>?_
  refine aI hS (b:=decide (fV < i_)) kr (fun hb=>?_) fun hb=>?_
  ·replace hm:=hm.1 hb
   refine aO ?_
   refine cb (fun a w=>∃ (Z:Nat->Nat) (X:Nat->Nat) (fo:Int),VC19_J2 I1 μ1 bj fV fo/\St Tryz.f19.ntmps ⟨[(0,Sl a1 dW c1),(1,I i_),(5,I fo),(6,I fV)],[]⟩ Z a w X/\Old w0 X0 w X/\RS tI w X a1 dW c1) ?_ ?_
   ·refine aQ ?_
    refine dB [] mixed hS ?_
    intro qn pC hS hE hD hH
    replace hO:=hO.m2 hE
    replace h102:=h102.m1 hE
    refine tke T [0,1,4,5] [] hS hH #[true,true,false,false,true,true,false,false,false] 5 [] [(12,Sl a1 dW c1),(13,I fV),(16,Sl a1 dW c1),(17,I i_)] fun a hS=>?_
    obtain ⟨hq,hm⟩:=hm
    refine dg (e:=3) (k:=.i64) T 2 hS kr kr kr (by rfl) kr hH kr kr h102 kr kr hq.1 hq.2 ?_
    intro yw a h110 hS
    have lz:=h110.here
    refine dQ T 3 hS kr kr kr (by rfl) kr hH kr h110 lz rfl kr ?_
    intro v111 a hv hS
    cases hv
    obtain ⟨hq,hm⟩:=hm
    refine dg (e:=3) (k:=.i64) T 6 hS kr kr kr (by rfl) kr hH kr kr h102 kr kr hq.1 hq.2 ?_
    intro Hy a h113 hS
    have vW:=h113.here
    refine dQ T 7 hS kr kr kr (by rfl) kr hH kr h113 vW rfl kr ?_
    intro v114 a hv hS
    cases hv
    refine tke T [8] [] hS hH (tts 9) 0 [12,13,16,17,14,15,18,19] [(20,B ((gi dW fV) == (gi dW i_)))] fun a hS=>?_
    refine aY kr ?_
    replace hS:=hS.sle [] []
    refine aI hS (b:=((gi dW fV) == (gi dW i_))) kr (fun hb=>?_) fun hb=>?_
    ·replace hm:=hm.1 hb
     refine region (ePe T hS [20] [(5,I (wR (bj+1)))] fun a hS=>?_)
     exact ⟨Z,_,wR (bj+1),hm,hS.sl _,hO,h102⟩
    replace hm:=hm.2 hb
    refine aO ?_
    exact ⟨Z,_,bj,hm,hS.sl _,hO,h102⟩
   rintro a uY ⟨Z,ER,fo,hm,hS,hO,h105⟩
   unfold VC19_J2 at hm
   refine region (ePe T hS [] [(6,I (wR (fV+1)))] fun a hS=>?_)
   exact ⟨⟨fo,wR (fV+1)⟩,⟨Z,_,hm.1,hS.sl _,hO,h105⟩,hm.2⟩
  replace hm:=hm.2 hb
  refine cu (by rfl) ?_
  exact ⟨Z,_,bj,hm,hS.sl _,hO⟩
 rintro a Br ⟨Z,Be,bD,hm,hS,hO⟩
 unfold VC19_J1 at hm
 refine rPe T hS [5] [(4,I bD)] fun a hS=>?_
 refine ba ?_
 exact fin T hS hO (fun c=>c) rfl (r:=[.int .i64 bD]) kr (fun X' hM hC=>⟨bD,hm,rfl⟩)
theorem C19 (v:∀ (dW:List Int) (i_:Int),yM dW i_->VC19 dW i_ (fun r=>r=ew dW i_)):S19:=by
 intro w X dW i_ a1 c1   hp h1
 refine (W19 w X dW i_ a1 c1   _ (v dW i_ hp) h1).mono ?_
 rintro _ _ _ _ ⟨r,rfl,h⟩
 exact h
theorem W5 (NL:S11) (HC:S12) (Pl:S13) (Ds:S15) (Iu:S16) (It:S17) (Is:S18) (Pk:S19) (Ir:S20) (k6:S6) (k7:S7) (k8:S8) (k9:S9) (w0) (X0) (h_:ak) (a1) (c1) (a2) (c2) (Q:Bool->Prop) (hm:VC5 h_ Q) (h1:RS aC w0 X0 a1 h_.ae c1) (h2:RS aL w0 X0 a2 h_.al c2) :
  Ret Tryz.prog 5 #[.agg #[.slice a1 h_.ae.length c1,.slice a2 h_.al.length c2]] aM w0 X0 (fun w X' v=>∃ r,Q r/\v=.bool r):=by
 unfold VC5 at hm
 replace hm:=hm (h1.sm kr)
 replace hm:=hm (h2.sm kr)
 refine enter Tryz.func5 rfl (vals:=[.agg #[.slice a1 h_.ae.length c1,.slice a2 h_.al.length c2]]) kr ?_
 intro Z a hS hO hM
 replace h1:=h1.m0 hM
 replace h2:=h2.m0 hM
 refine rM T hS ⟨[(1,Pt 2 0)],[(2,(25,[Sl a1 h_.ae c1,Sl a2 h_.al c2]))]⟩ fun Z a Ot QN hS hE hr=>?_
 replace hO:=hO.m2 hE
 replace h1:=h1.m1 hE
 replace h2:=h2.m1 hE
 clear hE hr
 refine bh ?_
 refine cb (fun a w=>∃ (Z:Nat->Nat) (X:Nat->Nat) (bD:Bool),VC5_J1 h_ Q bD/\St Tryz.f5.ntmps ⟨[(1,Pt 2 0),(22,B bD)],[(2,(25,[Sl a1 h_.ae c1,Sl a2 h_.al c2]))]⟩ Z a w X/\Old w0 X0 w X/\RS aC w X a1 h_.ae c1/\RS aL w X a2 h_.al c2) ?_ ?_
 ·refine region ?_
  refine oPe T hS 1 [] [(15,V (.agg #[.slice a1 h_.ae.length c1,.slice a2 h_.al.length c2]))] fun a hS=>?_
  refine op1 (call hS kr kr hb6 kr (fun _ _=>rfl) (k6 _ _ h_ a1 c1 a2 c2 h1 h2) ?_)
  intro v274 a Oy QQ hE hp hS
  replace hO:=hO.m2 hE
  replace h1:=h1.m1 hE
  replace h2:=h2.m1 hE
  obtain ⟨xB,hr⟩:∃ r,ie h_=r:=⟨_,rfl⟩
  replace hm:=hm xB hr
  rw [hr] at hp
  clear hr
  subst hp
  refine oPe T hS 2 [15,16] [(18,B (!xB))] fun a hS=>?_
  rcases bft (!xB) with hb | hb
  ·replace hS:=hS.lit (t:=18) kr hb
   replace hm:=hm.1 hb
   refine ePe T hS [18] [(22,B true)] fun a hS=>?_
   exact ⟨Z,_,true,hm,hS.sl _,hO,h1,h2⟩
  replace hS:=hS.lit (t:=18) kr hb
  replace hm:=hm.2 hb
  refine oPe T hS 1 [] [(19,V (.agg #[.slice a1 h_.ae.length c1,.slice a2 h_.al.length c2]))] fun a hS=>?_
  refine op1 (call hS kr kr hb7 kr (fun _ _=>rfl) (k7 _ _ h_ a1 c1 a2 c2 h1 h2) ?_)
  intro v278 a Ow QO hE hp hS
  replace hO:=hO.m2 hE
  replace h1:=h1.m1 hE
  replace h2:=h2.m1 hE
  obtain ⟨Ah,hr⟩:∃ r,fu h_=r:=⟨_,rfl⟩
  replace hm:=hm Ah hr
  rw [hr] at hp
  clear hr
  subst hp
  refine ePe T hS [18,19,20] [(22,B (decide (Ah > 8)))] fun a hS=>?_
  exact ⟨Z,_,decide (Ah > 8),hm,hS.sl _,hO,h1,h2⟩
 rintro a Ou ⟨Z,MP,bD,hm,hS,hO,h102,h103⟩
 unfold VC5_J1 at hm
 refine aI hS (b:=bD) kr (fun hb=>?_) fun hb=>?_
 ·replace hm:=hm.1 hb
  refine br ?_
  refine op1 (call hS kr kr hb8 kr (fun _ _=>rfl) (k8 _ _) ?_)
  intro v104 a nA mh hE hp hS
  replace hO:=hO.m2 hE
  replace h102:=h102.m1 hE
  replace h103:=h103.m1 hE
  obtain ⟨nE,hr⟩:∃ r,fN=r:=⟨_,rfl⟩
  replace hm:=hm nE hr
  rw [hr] at hp
  clear hr
  subst hp
  refine eP T hS ⟨[(2,B nE)],[]⟩ fun a hS=>?_
  refine ba ?_
  exact fin T hS hO (fun c=>c) rfl (r:=[.bool nE]) kr (fun X' hM hC=>⟨nE,hm,rfl⟩)
 replace hm:=hm.2 hb
 refine aO ?_
 refine br ?_
 refine oPe T hS 1 [22] [(25,V (.agg #[.slice a1 h_.ae.length c1,.slice a2 h_.al.length c2]))] fun a hS=>?_
 obtain ⟨hq,hm⟩:=hm
 refine op1 (call hS kr kr hb15 kr (fun _ _=>rfl) (Ds _ _ (⟨h_.ae,h_.al⟩:ak) a1 c1 a2 c2 hq h102 h103) ?_)
 intro v108 a qm sf hE hp hS
 replace hO:=hO.m2 hE
 replace h102:=h102.m1 hE
 replace h103:=h103.m1 hE
 obtain ⟨eO,eN,hp,h114⟩:=hp
 obtain ⟨bG,hr⟩:∃ r,bV (⟨h_.ae,h_.al⟩:ak)=r:=⟨_,rfl⟩
 replace hm:=hm bG hr
 rw [hr] at hp h114
 clear hr
 subst hp
 replace hm:=hm (h114.sm kr)
 refine ePe T hS [25,26] [(3,Sl eO bG.1 eN),(4,I bG.2)] fun a hS=>?_
 refine br ?_
 refine oPe T hS 1 [] [(30,V (.agg #[.slice a1 h_.ae.length c1,.slice a2 h_.al.length c2]))] fun a hS=>?_
 obtain ⟨hq,hm⟩:=hm
 refine op1 (call hS kr kr hb9 kr (fun _ _=>rfl) (k9 _ _ (⟨h_.ae,h_.al⟩:ak) a1 c1 a2 c2 hq h102 h103) ?_)
 intro v115 a uY yq hE hp hS
 replace hO:=hO.m2 hE
 replace h102:=h102.m1 hE
 replace h103:=h103.m1 hE
 replace h114:=h114.m1 hE
 obtain ⟨ir,hr⟩:∃ r,fe (⟨h_.ae,h_.al⟩:ak)=r:=⟨_,rfl⟩
 replace hm:=hm ir hr
 rw [hr] at hp
 clear hr
 subst hp
 refine ePe T hS [30,31] [(5,B ir.1),(6,I ir.2)] fun a hS=>?_
 refine bh ?_
 refine rPe T hS [5,6] [(54,B ((((bG.2 == 0) != ir.1) || ((bG.2 == 41) && (ir.2 != 0))) || ((bG.2 != 0) && ((lN bG.1) != 0))))] (sp:=[38,41,46,49]) fun a hS=>?_
 refine aI hS (b:=((((bG.2 == 0) != ir.1) || ((bG.2 == 41) && (ir.2 != 0))) || ((bG.2 != 0) && ((lN bG.1) != 0)))) kr (fun hb=>?_) fun hb=>?_
 ·replace hm:=hm.1 hb
  refine rP T hS ⟨[(2,B false)],[]⟩ fun a hS=>?_
  refine ba ?_
  exact fin T hS hO (fun c=>c) rfl (r:=[.bool false]) kr (fun X' hM hC=>⟨false,hm,rfl⟩)
 replace hm:=hm.2 hb
 refine aO (bh ?_)
 refine rPe T hS [4,54] [(56,B (bG.2 != 0))] fun a hS=>?_
 refine aI hS (b:=(bG.2 != 0)) kr (fun hb=>?_) fun hb=>?_
 ·replace hm:=hm.1 hb
  refine br ?_
  refine op1 (call hS kr kr hb8 kr (fun _ _=>rfl) (k8 _ _) ?_)
  intro v119 a Br EO hE hp hS
  replace hO:=hO.m2 hE
  replace h102:=h102.m1 hE
  replace h103:=h103.m1 hE
  replace h114:=h114.m1 hE
  obtain ⟨xH,hr⟩:∃ r,fN=r:=⟨_,rfl⟩
  replace hm:=hm xH hr
  rw [hr] at hp
  clear hr
  subst hp
  refine eP T hS ⟨[(2,B xH)],[]⟩ fun a hS=>?_
  refine ba ?_
  exact fin T hS hO (fun c=>c) rfl (r:=[.bool xH]) kr (fun X' hM hC=>⟨xH,hm,rfl⟩)
 replace hm:=hm.2 hb
 refine aO (bh ?_)
 refine cb (fun a w=>∃ (Z:Nat->Nat) (X:Nat->Nat) (dK:Bool),VC5_J2 h_ Q bG dK/\St Tryz.f5.ntmps ⟨[(1,Pt 2 0),(3,Sl eO bG.1 eN),(70,B dK)],[(2,(25,[Sl a1 h_.ae c1,Sl a2 h_.al c2]))]⟩ Z a w X/\Old w0 X0 w X/\RS av w X eO bG.1 eN/\RS aC w X a1 h_.ae c1/\RS aL w X a2 h_.al c2) ?_ ?_
 ·refine hJ [2] mixed hS ?_
  intro OF QX hS hE hD hH
  replace hO:=hO.m2 hE
  replace h102:=h102.m1 hE
  replace h103:=h103.m1 hE
  replace h114:=h114.m1 hE
  refine tke T [0,2,4,1] [2] hS hH #[true,true,true,false,true,false,false,false,false,false,false,false,false] 9 [] [(59,Sl a1 h_.ae c1),(60,V (.agg #[.slice a1 h_.ae.length c1,.slice a2 h_.al.length c2])),(62,Sl eO bG.1 eN)] fun a hS=>?_
  obtain ⟨hq,hm⟩:=hm
  refine only 3 kr (by rfl) (call hS kr kr hb11 kr (fun _ _=>rfl) (NL _ _ (⟨h_.ae,h_.al⟩:ak) a1 c1 a2 c2 hq h102 h103) ?_)
  intro v257 a Kq MQ hE hp hS
  replace hO:=hO.m2 hE
  replace hD:=hD.ev hE rfl
  replace h102:=h102.m1 hE
  replace h103:=h103.m1 hE
  replace h114:=h114.m1 hE
  obtain ⟨JJ,Jv,hp,h263⟩:=hp
  obtain ⟨ib,hr⟩:∃ r,fm (⟨h_.ae,h_.al⟩:ak)=r:=⟨_,rfl⟩
  replace hm:=hm ib hr
  rw [hr] at hp h263
  clear hr
  subst hp
  replace hm:=hm (h263.sm kr)
  replace hS:=hS.sle [] [(61,Sl JJ ib Jv)]
  refine da (bO.of hS (bks:=[2]) kr hD) ?_
  intro hH
  obtain ⟨hq,hm⟩:=hm
  refine only 5 kr (by rfl) (call hS kr kr hb13 kr (fun _ _=>rfl) (Pl _ _ h_.ae ib bG.1 a1 c1 JJ Jv eO eN hq h102 h263 h114) ?_)
  intro v264 a OD QV hE hp hS
  replace hO:=hO.m2 hE
  replace hD:=hD.ev hE rfl
  replace h102:=h102.m1 hE
  replace h103:=h103.m1 hE
  replace h114:=h114.m1 hE
  replace h263:=h263.m1 hE
  obtain ⟨vn,hr⟩:∃ r,fM h_.ae ib bG.1=r:=⟨_,rfl⟩
  replace hm:=hm vn hr
  rw [hr] at hp
  clear hr
  subst hp
  replace hS:=hS.sle [] [(63,B vn)]
  refine da (bO.of hS (bks:=[2]) kr hD) ?_
  intro hH
  refine tke T [6,7] [2] hS hH #[true,true,true,true,true,true,true,true,false,false,false,false,false] 5 [59,60,62,61,63] [(65,B (!vn))] fun a hS=>?_
  rcases bft (!vn) with hb | hb
  ·replace hS:=hS.lit (t:=65) kr hb
   replace hm:=hm.1 hb
   refine tke T [8,9,10,11,12] [2] hS hH (tts 13) 0 [65] [(70,B true)] fun a hS=>?_
   refine aY kr ?_
   replace hS:=hS.sle [] []
   exact ⟨Z,_,true,hm,hS.sl _,hO,h114,h102,h103⟩
  replace hS:=hS.lit (t:=65) kr hb
  replace hm:=hm.2 hb
  refine tke T [8,9] [2] hS hH #[true,true,true,true,true,true,true,true,true,true,false,false,false] 3 [] [(66,V (.agg #[.slice a1 h_.ae.length c1,.slice a2 h_.al.length c2])),(67,Sl eO bG.1 eN)] fun a hS=>?_
  obtain ⟨hq,hm⟩:=hm
  refine only 10 kr (by rfl) (call hS kr kr hb12 kr (fun _ _=>rfl) (HC _ _ (⟨h_.ae,h_.al⟩:ak) bG.1 a1 c1 a2 c2 eO eN hq h102 h103 h114) ?_)
  intro v268 a OB QT hE hp hS
  replace hO:=hO.m2 hE
  replace hD:=hD.ev hE rfl
  replace h102:=h102.m1 hE
  replace h103:=h103.m1 hE
  replace h114:=h114.m1 hE
  replace h263:=h263.m1 hE
  obtain ⟨xC,hr⟩:∃ r,eH (⟨h_.ae,h_.al⟩:ak) bG.1=r:=⟨_,rfl⟩
  replace hm:=hm xC hr
  rw [hr] at hp
  clear hr
  subst hp
  replace hS:=hS.sle [] [(68,B xC)]
  refine da (bO.of hS (bks:=[2]) kr hD) ?_
  intro hH
  refine tke T [11,12] [2] hS hH (tts 13) 0 [65,66,67,68] [(70,B (!xC))] fun a hS=>?_
  refine aY kr ?_
  replace hS:=hS.sle [] []
  exact ⟨Z,_,(!xC),hm,hS.sl _,hO,h114,h102,h103⟩
 rintro a Oz ⟨Z,QR,dK,hm,hS,hO,h123,h125,h126⟩
 unfold VC5_J2 at hm
 refine aI hS (b:=dK) kr (fun hb=>?_) fun hb=>?_
 ·replace hm:=hm.1 hb
  refine rP T hS ⟨[(2,B false)],[]⟩ fun a hS=>?_
  refine ba ?_
  exact fin T hS hO (fun c=>c) rfl (r:=[.bool false]) kr (fun X' hM hC=>⟨false,hm,rfl⟩)
 replace hm:=hm.2 hb
 refine aO ?_
 refine dB [2] mixed hS ?_
 intro tw Bd hS hE hD hH
 replace hO:=hO.m2 hE
 replace h123:=h123.m1 hE
 replace h125:=h125.m1 hE
 replace h126:=h126.m1 hE
 refine tke T [0,2,1] [2] hS hH #[true,true,true,false,false,false,false,false,false,false] 7 [] [(73,Sl a1 h_.ae c1),(74,V (.agg #[.slice a1 h_.ae.length c1,.slice a2 h_.al.length c2]))] fun a hS=>?_
 obtain ⟨hq,hm⟩:=hm
 refine only 3 kr (by rfl) (call hS kr kr hb11 kr (fun _ _=>rfl) (NL _ _ (⟨h_.ae,h_.al⟩:ak) a1 c1 a2 c2 hq h125 h126) ?_)
 intro v129 a uV De hE hp hS
 replace hO:=hO.m2 hE
 replace hD:=hD.ev hE rfl
 replace h123:=h123.m1 hE
 replace h125:=h125.m1 hE
 replace h126:=h126.m1 hE
 obtain ⟨pA,pw,hp,h135⟩:=hp
 obtain ⟨gP,hr⟩:∃ r,fm (⟨h_.ae,h_.al⟩:ak)=r:=⟨_,rfl⟩
 replace hm:=hm gP hr
 rw [hr] at hp h135
 clear hr
 subst hp
 replace hm:=hm (h135.sm kr)
 replace hS:=hS.sle [] [(75,Sl pA gP pw)]
 refine da (bO.of hS (bks:=[2]) kr hD) ?_
 intro hH
 obtain ⟨hq,hm⟩:=hm
 refine only 4 kr (by rfl) (call hS kr kr hb16 kr (fun _ _=>rfl) (Iu _ _ h_.ae gP a1 c1 pA pw hq h125 h135) ?_)
 intro v136 a F1 Ho hE hp hS
 replace hO:=hO.m2 hE
 replace hD:=hD.ev hE rfl
 replace h123:=h123.m1 hE
 replace h125:=h125.m1 hE
 replace h126:=h126.m1 hE
 replace h135:=h135.m1 hE
 obtain ⟨mG,mE,gG,gF,hp,h142,h145⟩:=hp
 obtain ⟨gO,hr⟩:∃ r,dc h_.ae gP=r:=⟨_,rfl⟩
 replace hm:=hm gO hr
 rw [hr] at hp h142 h145
 clear hr
 subst hp
 replace hm:=hm (h142.sm kr)
 replace hm:=hm (h145.sm kr)
 replace hS:=hS.sle [] [(76,V (.tuple #[.slice mG gO.1.length mE,.slice gG gO.2.length gF]))]
 refine da (bO.of hS (bks:=[2]) kr hD) ?_
 intro hH
 refine tke T [5,6,7,8,9] [2] hS hH (tts 10) 0 [73,74,75,76] [(8,Sl gG gO.2 gF)] fun a hS=>?_
 refine aY kr ?_
 replace hS:=hS.sle [] []
 refine cb (fun a w=>∃ Z X,VC5_J3 Q/\St Tryz.f5.ntmps ⟨[],[]⟩ Z a w X/\Old w0 X0 w X) ?_ ?_
 ·refine rPe T hS [] [(9,I 0)] fun a hS=>?_
  refine aQ ?_
  obtain ⟨I1,μ1,cJ,hm⟩:=hm
  refine cH (σ:=Int) (fun s a w=>∃ Z X,I1 s/\St Tryz.f5.ntmps ⟨[(1,Pt 2 0),(3,Sl eO bG.1 eN),(8,Sl gG gO.2 gF),(9,I s)],[(2,(25,[Sl a1 h_.ae c1,Sl a2 h_.al c2]))]⟩ Z a w X/\Old w0 X0 w X/\RS av w X eO bG.1 eN/\RS tI w X gG gO.2 gF/\RS aC w X a1 h_.ae c1/\RS aL w X a2 h_.al c2) (fun s=>μ1 s) (0) ?_ ?_
  ·exact ⟨Z,_,cJ,hS.sl _,hO,h123,h145,h125,h126⟩
  rintro fU a OI ⟨Z,Q1,hI,hS,hO,h150,h151,h153,h154⟩
  replace hm:=hm fU hI
  clear hI cJ
  refine bh ?_
  refine rPe T hS [] [(83,B (decide (fU < (lN h_.ae))))] fun a hS=>?_
  refine aI hS (b:=decide (fU < (lN h_.ae))) kr (fun hb=>?_) fun hb=>?_
  ·replace hm:=hm.1 hb
   refine aO (bh ?_)
   refine aQ ?_
   refine br ?_
   refine oPe T hS 2 [83] [(86,V (.agg #[.slice a1 h_.ae.length c1,.slice a2 h_.al.length c2])),(87,I fU)] fun a hS=>?_
   obtain ⟨hq,hm⟩:=hm
   refine op1 (call hS kr kr hb17 kr (fun _ _=>rfl) (It _ _ (⟨h_.ae,h_.al⟩:ak) fU a1 c1 a2 c2 hq h153 h154) ?_)
   intro v155 a HZ EM hE hp hS
   replace hO:=hO.m2 hE
   replace h150:=h150.m1 hE
   replace h151:=h151.m1 hE
   replace h153:=h153.m1 hE
   replace h154:=h154.m1 hE
   obtain ⟨oV,oO,uI,uB,hp,h161,h164⟩:=hp
   obtain ⟨fG,hr⟩:∃ r,dG (⟨h_.ae,h_.al⟩:ak) fU=r:=⟨_,rfl⟩
   replace hm:=hm fG hr
   rw [hr] at hp h161 h164
   clear hr
   subst hp
   replace hm:=hm (h161.sm kr)
   replace hm:=hm (h164.sm kr)
   refine eM T hS ⟨[(1,Pt 2 0),(3,Sl eO bG.1 eN),(8,Sl gG gO.2 gF),(9,I fU),(10,Pt 11 0)],[(2,(25,[Sl a1 h_.ae c1,Sl a2 h_.al c2])),(11,(51,[I fG.az.au,I fG.az.aA,I fG.az.aH,Sl oV fG.az.Rows oO,Sl uI fG.al uB]))]⟩ fun Z a OL Q2 hS hE hr=>?_
   replace hO:=hO.m2 hE
   replace h150:=h150.m1 hE
   replace h151:=h151.m1 hE
   replace h153:=h153.m1 hE
   replace h154:=h154.m1 hE
   replace h161:=h161.m1 hE
   replace h164:=h164.m1 hE
   clear hE hr
   refine br ?_
   refine oPe T hS 2 [] [(91,Sl uI fG.al uB)] fun a hS=>?_
   refine op1 (call hS kr kr hb18 kr (fun _ _=>rfl) (Is _ _ fG.al uI uB h164) ?_)
   intro v165 a HX Hj hE hp hS
   replace hO:=hO.m2 hE
   replace h150:=h150.m1 hE
   replace h151:=h151.m1 hE
   replace h153:=h153.m1 hE
   replace h154:=h154.m1 hE
   replace h161:=h161.m1 hE
   replace h164:=h164.m1 hE
   obtain ⟨uH,uA,hp,h171⟩:=hp
   obtain ⟨lM,hr⟩:∃ r,gD fG.al=r:=⟨_,rfl⟩
   replace hm:=hm lM hr
   rw [hr] at hp h171
   clear hr
   subst hp
   replace hm:=hm (h171.sm kr)
   refine ePe T hS [91,92] [(11,Sl uH lM.1 uA)] fun a hS=>?_
   refine rPe T hS [] [(13,V (.slice none 0 0))] fun a hS=>?_
   refine cb (fun a w=>∃ (Z:Nat->Nat) (X:Nat->Nat) (lI:List aa) (nY:Option Addr) (nU:Nat),VC5_J4 Q I1 μ1 fU fG lM lI/\St Tryz.f5.ntmps ⟨[(1,Pt 2 0),(3,Sl eO bG.1 eN),(8,Sl gG gO.2 gF),(9,I fU),(10,Pt 11 0),(11,Sl uH lM.1 uA),(13,Sl nY lI nU)],[(2,(25,[Sl a1 h_.ae c1,Sl a2 h_.al c2])),(11,(51,[I fG.az.au,I fG.az.aA,I fG.az.aH,Sl oV fG.az.Rows oO,Sl uI fG.al uB]))]⟩ Z a w X/\Old w0 X0 w X/\RS av w X eO bG.1 eN/\RS tI w X gG gO.2 gF/\RS ar w X uH lM.1 uA/\OS av 56 w X 1014 nY lI nU/\RS aC w X a1 h_.ae c1/\RS aL w X a2 h_.al c2/\RS aB w X oV fG.az.Rows oO/\RS aR w X uI fG.al uB) ?_ ?_
   ·refine rPe T hS [] [(14,I 0)] fun a hS=>?_
    refine aQ ?_
    obtain ⟨I2,μ2,cJ,hm⟩:=hm
    refine cH (σ:=(List aa) × Int) (fun s a w=>∃ Z X uG uz,I2 s.1 s.2/\St Tryz.f5.ntmps ⟨[(1,Pt 2 0),(3,Sl eO bG.1 eN),(8,Sl gG gO.2 gF),(9,I fU),(10,Pt 11 0),(11,Sl uH lM.1 uA),(13,Sl uG s.1 uz),(14,I s.2)],[(2,(25,[Sl a1 h_.ae c1,Sl a2 h_.al c2])),(11,(51,[I fG.az.au,I fG.az.aA,I fG.az.aH,Sl oV fG.az.Rows oO,Sl uI fG.al uB]))]⟩ Z a w X/\Old w0 X0 w X/\RS av w X eO bG.1 eN/\RS tI w X gG gO.2 gF/\RS ar w X uH lM.1 uA/\OS av 56 w X 1014 uG s.1 uz/\RS aC w X a1 h_.ae c1/\RS aL w X a2 h_.al c2/\RS aB w X oV fG.az.Rows oO/\RS aR w X uI fG.al uB) (fun s=>μ2 s.1 s.2) (⟨[],0⟩) ?_ ?_
    ·exact ⟨Z,_,none,0,cJ,hS.sl _,hO,h150,h151,h171,(OS.nil _ _ _ _ _),h153,h154,h161,h164⟩
    rintro ⟨tq,jU⟩ a ON ⟨Z,Q3,uG,uz,hI,hS,hO,h187,h188,h189,h193,h195,h196,h197,h198⟩
    replace hm:=hm tq jU hI
    clear hI cJ
    refine bh ?_
    refine rPe T hS [] [(98,B (decide (jU < (lN bG.1))))] fun a hS=>?_
    refine aI hS (b:=decide (jU < (lN bG.1))) kr (fun hb=>?_) fun hb=>?_
    ·replace hm:=hm.1 hb
     refine aO ?_
     refine cb (fun a w=>∃ (Z:Nat->Nat) (X:Nat->Nat) (iz:List aa) (EF:Option Addr) (Ex:Nat),VC5_J5 I2 μ2 tq jU iz/\St Tryz.f5.ntmps ⟨[(1,Pt 2 0),(3,Sl eO bG.1 eN),(8,Sl gG gO.2 gF),(9,I fU),(10,Pt 11 0),(11,Sl uH lM.1 uA),(13,Sl EF iz Ex),(14,I jU)],[(2,(25,[Sl a1 h_.ae c1,Sl a2 h_.al c2])),(11,(51,[I fG.az.au,I fG.az.aA,I fG.az.aH,Sl oV fG.az.Rows oO,Sl uI fG.al uB]))]⟩ Z a w X/\Old w0 X0 w X/\RS av w X eO bG.1 eN/\RS tI w X gG gO.2 gF/\RS ar w X uH lM.1 uA/\OS av 56 w X 1014 EF iz Ex/\RS aC w X a1 h_.ae c1/\RS aL w X a2 h_.al c2/\RS aB w X oV fG.az.Rows oO/\RS aR w X uI fG.al uB) ?_ ?_
     ·refine aQ ?_
      refine br ?_
      refine oPe T hS 3 [98] [(101,Sl gG gO.2 gF),(102,Sl eO bG.1 eN),(103,I jU)] fun a hS=>?_
      obtain ⟨hq,hm⟩:=hm
      refine op1 (index (e:=56) (k:=.i64) T hS kr kr kr kr h187 kr kr hq.1 hq.2 ?_)
      intro RJ a h211 hS
      refine op1 (fD (off:=0) (fsz:=1) (ft:=3) (TF:=tI) (y:=(gi bG.1 jU).Oper) T hS kr kr kr h211 kr kr kr (fun cs h=>fP h) ?_)
      intro RI a h213 hS
      refine op1 (eT T hS kr kr kr h213 rfl kr ?_)
      intro v214 a hv hS
      cases hv
      obtain ⟨hq,hm⟩:=hm
      refine op1 (index (e:=3) (k:=.i64) T hS kr kr kr kr h188 kr kr hq.1 hq.2 ?_)
      intro RH a h216 hS
      refine op1 (eT T hS kr kr kr h216 rfl kr ?_)
      intro v217 a hv hS
      cases hv
      refine ePe T hS [101,102,103,104,105,106,107,108] [(110,B ((gi gO.2 ((gi bG.1 jU).Oper)) == fU))] fun a hS=>?_
      refine aI hS (b:=((gi gO.2 ((gi bG.1 jU).Oper)) == fU)) kr (fun hb=>?_) fun hb=>?_
      ·replace hm:=hm.1 hb
       refine hJ [2,11] mixed hS ?_
       intro OZ Re hS hE hD hH
       replace hO:=hO.m2 hE
       replace h187:=h187.m1 hE
       replace h188:=h188.m1 hE
       replace h189:=h189.m1 hE
       replace h193:=h193.m2 hE
       replace h195:=h195.m1 hE
       replace h196:=h196.m1 hE
       replace h197:=h197.m1 hE
       replace h198:=h198.m1 hE
       refine tke T [0,1,2,3,8,9] [2,11] hS hH #[true,true,true,true,false,false,false,false,true,true,false,false,false,false,false,false,false] 11 [] [(111,Sl uG tq uz),(112,Sl gG gO.2 gF),(113,Sl eO bG.1 eN),(114,I jU),(119,Sl eO bG.1 eN),(120,I jU)] fun a hS=>?_
       obtain ⟨hq,hm⟩:=hm
       refine dg (e:=56) (k:=.i64) T 4 hS kr kr kr (by rfl) kr hH kr kr h187 kr kr hq.1 hq.2 ?_
       intro RG a h221 hS
       have IY:=h221.here
       refine dt (off:=0) (fsz:=1) (ft:=3) (TF:=tI) (y:=(gi bG.1 jU).Oper) 5 T hS kr kr kr (by rfl) kr hH kr h221 kr kr kr (fun cs h=>fP h) ?_
       intro RD a h223 fO hS
       have FD:=IY
       rw [← fO] at FD
       clear fO
       refine dQ T 6 hS kr kr kr (by rfl) kr hH kr h223 FD rfl kr ?_
       intro v224 a hv hS
       cases hv
       obtain ⟨hq,hm⟩:=hm
       refine dg (e:=56) (k:=.i64) T 10 hS kr kr kr (by rfl) kr hH kr kr h187 kr kr hq.1 hq.2 ?_
       intro RB a h226 hS
       have IX:=h226.here
       refine dt (off:=1) (fsz:=1) (ft:=3) (TF:=tI) (y:=(gi bG.1 jU).Result) 11 T hS kr kr kr (by rfl) kr hH kr h226 kr kr kr (fun cs h=>wU h) ?_
       intro Rz a h228 fO hS
       have FC:=IX
       rw [← fO] at FC
       clear fO
       refine dQ T 12 hS kr kr kr (by rfl) kr hH kr h228 FC rfl kr ?_
       intro v229 a hv hS
       cases hv
       obtain ⟨hq,hm⟩:=hm
       refine only 7 kr (by rfl) (call hS kr kr hb19 kr (fun _ _=>rfl) (Pk _ _ gO.2 ((gi bG.1 jU).Oper) gG gF hq h188) ?_)
       intro v230 a OV Q9 hE hp hS
       replace hO:=hO.m2 hE
       replace hD:=hD.ev hE rfl
       replace h187:=h187.m1 hE
       replace h188:=h188.m1 hE
       replace h189:=h189.m1 hE
       replace h193:=h193.m2 hE
       replace h195:=h195.m1 hE
       replace h196:=h196.m1 hE
       replace h197:=h197.m1 hE
       replace h198:=h198.m1 hE
       replace h221:=h221.m1 hE
       replace h223:=h223.m1 hE
       replace h226:=h226.m1 hE
       replace h228:=h228.m1 hE
       obtain ⟨p1,hr⟩:∃ r,ew gO.2 ((gi bG.1 jU).Oper)=r:=⟨_,rfl⟩
       replace hm:=hm p1 hr
       rw [hr] at hp
       clear hr
       subst hp
       replace hS:=hS.sle [] [(118,I p1)]
       refine da (bO.of hS (bks:=[2,11]) kr hD) ?_
       intro hH
       refine tke T [13] [2,11] hS hH #[true,true,true,true,true,true,true,true,true,true,true,true,true,true,false,false,false] 3 [112,113,114,119,120,115,116,117,121,122,123,118] [(124,V (.agg #[.int .i64 p1,.int .i64 ((gi bG.1 jU).Result)]))] fun a hS=>?_
       refine only 14 kr (by rfl) (lit (E:=56) (col:=0) (T:=av) (vals:=[.agg #[.int .i64 p1,.int .i64 ((gi bG.1 jU).Result)]]) (ys:=[(⟨p1,(gi bG.1 jU).Result⟩:aa)]) T hS kr kr kr kr (by exact ⟨rfl,trivial⟩) rfl kr kr kr kr ?_)
       intro b234 a OR Q6 hE h237 hN hS
       clear hN
       replace hO:=hO.m2 hE
       replace hD:=hD.ev hE rfl
       replace h187:=h187.m1 hE
       replace h188:=h188.m1 hE
       replace h189:=h189.m1 hE
       replace h193:=h193.m2 hE
       replace h195:=h195.m1 hE
       replace h196:=h196.m1 hE
       replace h197:=h197.m1 hE
       replace h198:=h198.m1 hE
       replace h221:=h221.m1 hE
       replace h223:=h223.m1 hE
       replace h226:=h226.m1 hE
       replace h228:=h228.m1 hE
       replace h237:=h237.rs0
       refine da (bO.of hS (bks:=[2,11]) kr hD) ?_
       intro hH
       obtain ⟨hq,hm⟩:=hm
       obtain ⟨news,hN⟩:=h237.src
       refine only 15 kr (by rfl) (append (E:=56) (T:=av) (col:=1014) (xs:=tq) T hS kr kr kr kr h193 hN kr kr kr kr hq ?_)
       intro Hc G6 a Ks MU hE h240 hS
       clear hq hN
       clear h193
       replace hO:=hO.m2 hE
       replace hD:=hD.ev hE rfl
       replace h187:=h187.m1 hE
       replace h188:=h188.m1 hE
       replace h189:=h189.m1 hE
       replace h195:=h195.m1 hE
       replace h196:=h196.m1 hE
       replace h197:=h197.m1 hE
       replace h198:=h198.m1 hE
       replace h221:=h221.m1 hE
       replace h223:=h223.m1 hE
       replace h226:=h226.m1 hE
       replace h228:=h228.m1 hE
       replace h237:=h237.m1 hE
       replace hS:=hS.sle [13,111] [(126,Sl Hc (tq++[(⟨p1,(gi bG.1 jU).Result⟩:aa)]) G6)]
       refine da (bO.of hS (bks:=[2,11]) kr hD) ?_
       intro hH
       refine tke T [16] [2,11] hS hH (tts 17) 0 [124,125,126] [(13,Sl Hc (tq++[(⟨p1,(gi bG.1 jU).Result⟩:aa)]) G6)] fun a hS=>?_
       refine aY kr ?_
       replace hS:=hS.sle [] []
       exact ⟨Z,_,tq++[(⟨p1,(gi bG.1 jU).Result⟩:aa)],Hc,G6,hm,hS.sl _,hO,h187,h188,h189,h240,h195,h196,h197,h198⟩
      replace hm:=hm.2 hb
      refine aO ?_
      exact ⟨Z,_,tq,uG,uz,hm,hS.sl _,hO,h187,h188,h189,h193,h195,h196,h197,h198⟩
     rintro a OO ⟨Z,Q4,iz,EF,Ex,hm,hS,hO,h199,h200,h201,h205,h206,h207,h208,h209⟩
     unfold VC5_J5 at hm
     refine region (ePe T hS [] [(14,I (wR (jU+1)))] fun a hS=>?_)
     exact ⟨⟨iz,wR (jU+1)⟩,⟨Z,_,EF,Ex,hm.1,hS.sl _,hO,h199,h200,h201,h205,h206,h207,h208,h209⟩,hm.2⟩
    replace hm:=hm.2 hb
    refine cu (by rfl) ?_
    exact ⟨Z,_,tq,uG,uz,hm,hS.sl _,hO,h187,h188,h189,h193,h195,h196,h197,h198⟩
   rintro a HN ⟨Z,MS,lI,nY,nU,hm,hS,hO,h172,h173,h174,h178,h179,h180,h181,h182⟩
   unfold VC5_J4 at hm
   refine br ?_
   refine oP T hS 4 ⟨[(1,Pt 2 0),(3,Sl eO bG.1 eN),(8,Sl gG gO.2 gF),(9,I fU),(128,V (.agg #[.int .i64 fG.az.au,.int .i64 fG.az.aA,.int .i64 fG.az.aH,.slice oV fG.az.Rows.length oO])),(129,Sl uH lM.1 uA),(130,Sl nY lI nU)],[(2,(25,[Sl a1 h_.ae c1,Sl a2 h_.al c2]))]⟩ fun a hS=>?_
   obtain ⟨hq,hm⟩:=hm
   refine op1 (call hS kr kr hb20 kr (fun _ _=>rfl) (Ret.nB (Ir _ (eL 1014 _) fG.az lM.1 lI oV oO uH uA nY nU hq (h181.m0 (M0.eL 1014)) (h174.m0 (M0.eL 1014)) h178.eL)) ?_)
   intro v183 a Pa Na hE hp hS
   replace hO:=hO.m2 hE
   replace h172:=h172.m1 hE
   replace h173:=h173.m1 hE
   replace h174:=h174.m1 hE
   replace h178:=h178.m2 hE
   replace h179:=h179.m1 hE
   replace h180:=h180.m1 hE
   replace h181:=h181.m1 hE
   obtain ⟨_,hp⟩:=hp
   obtain ⟨xD,hr⟩:∃ r,de fG.az lM.1 lI=r:=⟨_,rfl⟩
   replace hm:=hm xD hr
   rw [hr] at hp
   clear hr
   subst hp
   refine ePe T hS [128,129,130,131] [(132,B (!xD))] fun a hS=>?_
   refine aI hS (b:=(!xD)) kr (fun hb=>?_) fun hb=>?_
   ·replace hm:=hm.1 hb
    refine rP T hS ⟨[(2,B false)],[]⟩ fun a hS=>?_
    refine ba ?_
    exact fin T hS hO (fun c=>c) rfl (r:=[.bool false]) kr (fun X' hM hC=>⟨false,hm,rfl⟩)
   replace hm:=hm.2 hb
   refine aO ?_
   refine region (ePe T hS [132] [(9,I (wR (fU+1)))] fun a hS=>?_)
   exact ⟨wR (fU+1),⟨Z,_,hm.1,hS.sl _,hO,h172,h173,h179,h180⟩,hm.2⟩
  replace hm:=hm.2 hb
  refine cu (by rfl) ?_
  exact ⟨Z,_,hm,hS.sl _,hO⟩
 rintro a OG ⟨Z,QZ,hm,hS,hO⟩
 unfold VC5_J3 at hm
 refine br ?_
 refine op1 (call hS kr kr hb8 kr (fun _ _=>rfl) (k8 _ _) ?_)
 intro v146 a uU yl hE hp hS
 replace hO:=hO.m2 hE
 obtain ⟨mu,hr⟩:∃ r,fN=r:=⟨_,rfl⟩
 replace hm:=hm mu hr
 rw [hr] at hp
 clear hr
 subst hp
 refine ePe T hS [133] [(2,B mu)] fun a hS=>?_
 refine ba ?_
 exact fin T hS hO (fun c=>c) rfl (r:=[.bool mu]) kr (fun X' hM hC=>⟨mu,hm,rfl⟩)
end Go.Proofs.YteahldlmkheleaaGreat
