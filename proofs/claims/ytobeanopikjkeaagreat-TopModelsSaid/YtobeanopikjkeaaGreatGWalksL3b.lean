/- Walks of the functions: each returns what its condition asks. Condition: the contracts of its callees, handed in. -/
import Derived.Test.YtobeanopikjkeaaGreatGWalksS
set_option linter.all false
namespace Go.Proofs.YtobeanopikjkeaaGreat
open Go Go.Sv
set_option maxHeartbeats 1000000
theorem W160 (ml:S157) (tq:S210) (w0) (X0) (s_:aa) (Q:Int->Prop) (hm:VC160 s_ Q) :
  rt 160 #[.agg #[ii s_.Ops,ii s_.ab]] aB w0 X0 (fun w X' v=>∃ r,Q r/\v=ii r):=by
 unfold VC160 at hm
 refine enter Tryz.func160 rfl (vals:=[.agg #[ii s_.Ops,ii s_.ab]]) kr ?_
 intro Z a hS hO hM
 refine rM T hS ⟨[(1,Pt 2 0)],[(2,(61,[I s_.Ops,I s_.ab]))]⟩ fun Z a y6 yQ hS hE hr=>?_
 replace hO:=hO.m2 hE
 clear hE hr
 refine a8 (bk ?_)
 refine oPe T hS 1 [] [(3,V (.agg #[ii s_.Ops,ii s_.ab]))] fun a hS=>(op1 (call hS kr kr hb157 kr (fun _ _=>rfl) (ml _ _ s_) ?_))
 intro v101 a eI eN hE hp hS
 replace hO:=hO.m2 hE
 generalize hr:cW s_=al at hp
 replace hm:=hm al hr
 subst hp
 refine ePe T hS [3,4] [(5,B (!al))] fun a hS=>(aC hS (b:=(!al)) kr (fun hb=>?_) fun hb=>?_)
 ·replace hm:=hm.1 hb
  refine rP T hS ⟨[(2,I 0)],[]⟩ fun a hS=>(aR ?_)
  exact fin T hS hO (fun c=>c) rfl (r:=[ii 0]) kr (fun X' hM hC=>⟨0,hm,rfl⟩)
 replace hm:=hm.2 hb
 refine aI (eT [2] mixed hS ?_)
 intro qj oW hS hE hD hH
 replace hO:=hO.m2 hE
 refine tke T [0,3,1,4,2] [2] hS hH #[true,true,true,true,true,false,false,false,false,false] 5 [1] [(8,I (wR (s_.Ops+1))),(10,I s_.ab)] fun a hS=>(only 5 kr (by rfl) (call hS kr kr hb210 kr (fun _ _=>rfl) (tq _ _ s_.ab) ?_))
 intro v107 a HR tN hE hp hS
 replace hO:=hO.m2 hE
 replace hD:=hD.ev hE rfl
 generalize hr:dJ s_.ab=fS at hp
 replace hm:=hm fS hr
 subst hp
 replace hS:=hS.sle [] [(11,I fS)]
 refine cm (br.of hS (bks:=[2]) kr hD) ?_
 intro hH
 refine tke T [6,7,8,9] [2] hS hH (tts 10) 0 [8,10,11] [(2,I (wR (1+(wR ((wR (s_.Ops+1)) * (wR (1+fS)))))))] fun a hS=>(bn kr ?_)
 replace hS:=hS.sl ⟨[(2,I (wR (1+(wR ((wR (s_.Ops+1)) * (wR (1+fS)))))))],[]⟩
 refine aR ?_
 exact fin T hS hO (fun c=>c) rfl (r:=[ii (wR (1+(wR ((wR (s_.Ops+1)) * (wR (1+fS))))))]) kr (fun X' hM hC=>⟨_,hm,rfl⟩)
theorem C160 (ml:S157) (tq:S210) (v:∀ (s_:aa),VC160 s_ (fun r=>r=gv s_)):S160:=fun w X s_=>mo1 (W160 ml tq w X s_ _ (v s_))
theorem W161 (ml:S157) (w0) (X0) (s_:aa) (ended:Int) (Q:Int->Prop) (hm:VC161 s_ ended Q) :
  rt 161 #[.agg #[ii s_.Ops,ii s_.ab],ii ended] aB w0 X0 (fun w X' v=>∃ r,Q r/\v=ii r):=by
 unfold VC161 at hm
 refine enter Tryz.func161 rfl (vals:=[.agg #[ii s_.Ops,ii s_.ab],ii ended]) kr ?_
 intro Z a hS hO hM
 refine rM T hS ⟨[(1,I ended),(2,Pt 3 0)],[(3,(61,[I s_.Ops,I s_.ab]))]⟩ fun Z a qj oW hS hE hr=>?_
 replace hO:=hO.m2 hE
 clear hE hr
 refine a8 (bk ?_)
 refine oPe T hS 1 [] [(6,V (.agg #[ii s_.Ops,ii s_.ab]))] fun a hS=>(op1 (call hS kr kr hb157 kr (fun _ _=>rfl) (ml _ _ s_) ?_))
 intro v101 a eI eN hE hp hS
 replace hO:=hO.m2 hE
 generalize hr:cW s_=al at hp
 replace hm:=hm al hr
 subst hp
 refine ePe T hS [6,7] [(18,B (((!al) || (decide (ended < 0))) || (decide (ended > s_.Ops))))] (sp:=[9,13]) fun a hS=>(aC hS (b:=(((!al) || (decide (ended < 0))) || (decide (ended > s_.Ops)))) kr (fun hb=>?_) fun hb=>?_)
 ·replace hm:=hm.1 hb
  refine rP T hS ⟨[(4,I 0)],[]⟩ fun a hS=>(aR ?_)
  exact fin T hS hO (fun c=>c) rfl (r:=[ii 0]) kr (fun X' hM hC=>⟨0,hm,rfl⟩)
 replace hm:=hm.2 hb
 refine aI (rPe T hS [18] [(5,I (wR (s_.Ops * s_.ab)))] fun a hS=>?_)
 refine rP T hS ⟨[(4,I (wR ((wR (ended * (wR (1+(wR (s_.Ops * s_.ab))))))+(wR ((wR ((wR (s_.Ops - ended)) * 2)) * (wR (s_.Ops * s_.ab)))))))],[]⟩ fun a hS=>(aR ?_)
 exact fin T hS hO (fun c=>c) rfl (r:=[ii (wR ((wR (ended * (wR (1+(wR (s_.Ops * s_.ab))))))+(wR ((wR ((wR (s_.Ops - ended)) * 2)) * (wR (s_.Ops * s_.ab))))))]) kr (fun X' hM hC=>⟨_,hm,rfl⟩)
theorem C161 (ml:S157) (v:∀ (s_:aa) (ended:Int),VC161 s_ ended (fun r=>r=gW s_ ended)):S161:=fun w X s_ ended=>mo1 (W161 ml w X s_ ended _ (v s_ ended))
theorem W163 (w0) (X0) (n_:Int) (aj:Int) (b1) (i1) (Q:Int->Prop) (hm:VC163 n_ aj Q) (eO:Cell w0 X0 b1 i1 3 [ii aj]) (hA:dL [i1]) :
  rt 163 #[ii n_,.pointer (some ⟨b1,0,none⟩)] (pR [i1]) w0 X0 (fun w X' v=>∃ r,Q r/\v=.tuple #[]/\Cell w X' b1 i1 3 [ii r]):=by
 unfold VC163 at hm
 refine fO Tryz.func163 rfl (eH [(i1,901)]) (zi1 b1) (args:=[I n_,Pt 901 0]) (bxs:=[(901,(3,[I aj]))]) kr rfl (aY.cons kr (eO.map (cr 0 hA.1 rfl)) aY.nil) (fC (fun q hq=>(hA.2 q.1 (List.mem_map.2 ⟨q,hq,rfl⟩)).1)) ?_
 intro a hS hO hM
 have hP:=pn1 b1
 generalize (zi1 b1)=Z at hS hP
 clear eO
 refine region (eM T hS ⟨[],[(901,(3,[I (wR (aj+n_))]))]⟩ fun Z a pa qg hS hE hr=>?_)
 replace hO:=hO.m2 hE
 replace hP:=hP.mv hr kr
 clear hE hr
 exact jP T hS hO (fun c h=>cw kr h) (fun c h=>cz (l:=[(i1,901)]) h) (dC [(i1,901)]) rfl (r:=[]) kr (fun X' hM hC=>⟨_,hm,rfl,((hS.cell (id:=901) (t:=3) (cs:=[I (wR (aj+n_))]) kr).out (f:=(dC [(i1,901)])) hC kr kr (hP.at 0 rfl))⟩)
theorem C163 (v:∀ (n_:Int) (aj:Int),VC163 n_ aj (fun r=>r=gX n_ aj)):S163:=fun w X n_ aj b1 i1 eO hA=>mo1 (W163 w X n_ aj b1 i1 _ (v n_ aj) eO hA)
theorem W116 (ml:S157) (IC:S158) (Dj:S159) (zX:S160) (wq:S161) (xQ:S162) (Mh:S163) (Di:S22) (zT:S56) (w0) (X0) (s_:aa) (l_:List ae) (a1) (c1) (Q:Int->Prop) (hm:VC116 s_ l_ Q) (h1:RS ar w0 X0 a1 l_ c1) :
  rt 116 #[.agg #[ii s_.Ops,ii s_.ab],.slice a1 l_.length c1] aB w0 X0 (fun w X' v=>∃ r,Q r/\v=ii r):=by
 unfold VC116 at hm
 replace hm:=hm (h1.sm kr)
 refine enter Tryz.func116 rfl (vals:=[.agg #[ii s_.Ops,ii s_.ab],.slice a1 l_.length c1]) kr ?_
 intro Z a hS hO hM
 replace h1:=h1.m0 hM
 refine rM T hS ⟨[(1,Sl a1 l_ c1),(2,Pt 3 0)],[(3,(61,[I s_.Ops,I s_.ab]))]⟩ fun Z a Xp aa5 hS hE hr=>?_
 have ⟨hO,h1⟩:=e2e hE hO.m2 h1.m1
 clear hE hr
 refine a8 (bk ?_)
 refine oPe T hS 1 [] [(13,Sl a1 l_ c1)] fun a hS=>(op1 (call hS kr kr hb56 kr (fun _ _=>rfl) (zT _ _ l_ a1 c1 h1) ?_))
 intro v101 a eI eN hE hp hS
 have ⟨hO,h1⟩:=e2e hE hO.m2 h1.m1
 generalize hr:bp l_=al at hp
 replace hm:=hm al hr
 subst hp
 refine ePe T hS [13,14] [(6,I al.2)] fun a hS=>(cg (fun a w=>∃ Z X,∃ (vC:Bool),VC116_J1 s_ l_ Q vC/\St Tryz.f116.ntmps ⟨[(1,Sl a1 l_ c1),(2,Pt 3 0),(30,B vC)],[(3,(61,[I s_.Ops,I s_.ab]))]⟩ Z a w X/\Old w0 X0 w X/\RS ar w X a1 l_ c1) ?_ ?_)
 ·refine region (oPe T hS 3 [6] [(19,B (al.2 != 0))] fun a hS=>?_)
  rcases bft (al.2 != 0) with hb | hb
  ·replace hS:=hS.lit (t:=19) kr hb
   replace hm:=hm.1 hb
   refine ePe T hS [19] [(30,B true)] fun a hS=>?_
   exact ⟨Z,_,true,hm,hS.sl _,hO,h1⟩
  replace hS:=hS.lit (t:=19) kr hb
  replace hm:=hm.2 hb
  refine oPe T hS 1 [] [(20,V (.agg #[ii s_.Ops,ii s_.ab]))] fun a hS=>(op1 (call hS kr kr hb157 kr (fun _ _=>rfl) (ml _ _ s_) ?_))
  intro v496 a Xr aa7 hE hp hS
  have ⟨hO,h1⟩:=e2e hE hO.m2 h1.m1
  generalize hr:cW s_=CQ at hp
  replace hm:=hm CQ hr
  subst hp
  refine ePe T hS [19,20,21] [(30,B ((!CQ) || ((lN l_) != s_.Ops)))] (sp:=[24]) fun a hS=>?_
  exact ⟨Z,_,((!CQ) || ((lN l_) != s_.Ops)),hm,hS.sl _,hO,h1⟩
 rintro a Xq ⟨Z,aa6,vC,hm,hS,hO,h105⟩
 unfold VC116_J1 at hm
 refine aC hS (b:=vC) kr (fun hb=>?_) fun hb=>?_
 ·replace hm:=hm.1 hb
  refine rP T hS ⟨[(4,I 0)],[]⟩ fun a hS=>(aR ?_)
  exact fin T hS hO (fun c=>c) rfl (r:=[ii 0]) kr (fun X' hM hC=>⟨0,hm,rfl⟩)
 replace hm:=hm.2 hb
 refine aI (eT [3] mixed hS ?_)
 intro o8 oV hS hE hD hH
 have ⟨hO,h105⟩:=e2e hE hO.m2 h105.m1
 refine tke T [0,2,3,7,9,10,12,11] [3] hS hH #[true,false,true,true,false,false,false,true,false,true,true,true,true,false,false,false,false,false,false,false] 12 [1,2] [(31,V (.agg #[ii s_.Ops,ii s_.ab])),(33,V (.agg #[ii s_.Ops,ii s_.ab])),(34,Sl a1 l_ c1),(38,V (.agg #[ii s_.Ops,ii s_.ab])),(40,V (.agg #[ii s_.Ops,ii s_.ab])),(42,I s_.Ops),(43,Sl a1 l_ c1)] fun a hS=>?_
 obtain ⟨aS,IS⟩:∃ r,gw s_=r:=⟨_,rfl⟩
 replace hm:=hm aS IS
 obtain ⟨IT,hm⟩:=hm
 obtain ⟨b9,Gl⟩:∃ r,bS l_=r:=⟨_,rfl⟩
 replace hm:=hm b9 Gl
 obtain ⟨bJ,Ds⟩:∃ r,gU s_ (lN b9)=r:=⟨_,rfl⟩
 replace hm:=hm bJ Ds
 obtain ⟨cf,Ag⟩:∃ r,gv s_=r:=⟨_,rfl⟩
 replace hm:=hm cf Ag
 obtain ⟨tx,hm⟩:=hm
 obtain ⟨eu,rj⟩:∃ r,gn l_=r:=⟨_,rfl⟩
 replace hm:=hm eu rj
 obtain ⟨fm,pL⟩:∃ r,gW s_ (wR (s_.Ops - (lN eu)))=r:=⟨_,rfl⟩
 replace hm:=hm fm pL
 obtain ⟨Cp,UL⟩:∃ q:Nat->Nat,q=Z:=⟨Z,rfl⟩
 subst UL
 refine QM (fun a w=>∃ Z X,(∀ id,id≠8->Z id=Cp id)/\St Tryz.f116.ntmps ⟨[(7,Pt 8 0),(48,V (.agg #[ii aS,ii bJ,ii cf,ii fm]))],[(3,(61,[I s_.Ops,I s_.ab])),(8,(254,[I 0,I 0,I 0,I 0]))]⟩ Z a w X/\Old w0 X0 w X/\M0 o8 oV w X/\br o8 oV (oM [3] ⟨[(1,Sl a1 l_ c1),(2,Pt 3 0)],[(3,(61,[I s_.Ops,I s_.ab]))]⟩) Cp w) #[true,true,true,true,true,true,true,true,true,true,true,true,true,true,true,true,true,true,true,false] 1 ?_ (fun H=>?_)
 ·rintro a Xx ⟨Z,abd,PD,hS,hO,hD,hH⟩
  clear IS IT Gl Ds Ag tx rj pL
  replace hS:=hS.sl ⟨[(7,Pt 8 0),(48,V (.agg #[ii aS,ii bJ,ii cf,ii fm]))],[(3,(61,[I s_.Ops,I s_.ab])),(8,(254,[I 0,I 0,I 0,I 0]))]⟩
  refine only 19 kr (by rfl) (zd T hS kr kr (sy':=⟨[(7,Pt 8 0),(48,V (.agg #[ii aS,ii bJ,ii cf,ii fm]))],[(8,(254,[I aS,I bJ,I cf,I fm])),(3,(61,[I s_.Ops,I s_.ab])),(8,(254,[I 0,I 0,I 0,I 0]))]⟩) kr ?_)
  intro a Xw abc hS hE
  replace hO:=hO.m2 hE
  replace hD:=hD.ev hE rfl
  replace hS:=hS.sl ⟨[(7,Pt 8 0),(48,V (.agg #[ii aS,ii bJ,ii cf,ii fm]))],[(3,(61,[I s_.Ops,I s_.ab])),(8,(254,[I aS,I bJ,I cf,I fm]))]⟩
  refine cm ((br.of hS (bks:=[3]) kr hD).rho PD kr) ?_
  intro hH
  refine bn kr ?_
  replace hS:=hS.sl ⟨[(7,Pt 8 0)],[(8,(254,[I aS,I bJ,I cf,I fm]))]⟩
  refine rM T hS ⟨[(7,Pt 8 0),(8,Pt 9 0)],[(8,(254,[I aS,I bJ,I cf,I fm])),(9,(3,[I 0]))]⟩ fun Z a Xs aa8 hS hE hr=>?_
  replace hO:=hO.m2 hE
  clear hE hr
  refine rPe T hS [] [(9,.f (.func 163) [] [.p 9 0])] fun a hS=>(cg (fun a w=>∃ Z X,∃ (Eg:Int),VC116_J2 Q Eg/\St Tryz.f116.ntmps ⟨[(8,Pt 9 0)],[(9,(3,[I Eg]))]⟩ Z a w X/\Old w0 X0 w X) ?_ ?_)
  ·refine rP T hS ⟨[(8,Pt 9 0),(9,.f (.func 163) [] [.p 9 0]),(50,V (.agg #[ii aS,ii bJ,ii cf,ii fm])),(51,I 0)],[(9,(3,[I 0]))]⟩ fun a hS=>(aH ?_)
   obtain ⟨I1,μ1,cC,hm⟩:=hm
   refine cu (σ:=Int × Int) (fun s a w=>∃ Z X,I1 s.1 s.2/\St Tryz.f116.ntmps ⟨[(8,Pt 9 0),(9,.f (.func 163) [] [.p 9 0]),(50,V (.agg #[ii aS,ii bJ,ii cf,ii fm])),(51,I s.1)],[(9,(3,[I s.2]))]⟩ Z a w X/\Old w0 X0 w X) (fun s=>μ1 s.1 s.2) (⟨0,0⟩) ?_ ?_
   ·exact ⟨Z,_,cC,hS.sl _,hO⟩
   rintro ⟨vz,Ef⟩ a Xu ⟨Z,aba,hI,hS,hO⟩
   replace hm:=hm vz Ef hI
   clear hI cC
   refine rPe T hS [] [(52,B (decide (vz < 4)))] fun a hS=>(a8 ?_)
   refine aC hS (b:=decide (vz < 4)) kr (fun hb=>?_) fun hb=>?_
   ·replace hm:=hm.1 hb
    refine aI (a8 ?_)
    refine aH (bk ?_)
    obtain ⟨hq,hm⟩:=hm
    refine op1 (NN (m:=4) (e:=3) (k0:=.i64) (k:=.i64) (cs:=[ii aS,ii bJ,ii cf,ii fm]) (xs:=([aS,bJ,cf,fm]:List Int)) T hS kr kr kr kr kr kr kr hq.1 hq.2 kr ?_)
    intro a hS
    refine ePe T hS [52,53] [(11,I (gi ([aS,bJ,cf,fm]:List Int) vz))] fun a hS=>(region ?_)
    refine oPe T hS 2 [11] [(54,.f (.func 163) [] [.p 9 0]),(55,I (gi ([aS,bJ,cf,fm]:List Int) vz))] fun a hS=>(op1 (gJ (fi:=[]) (cp:=[.p 9 0]) hS kr kr hb163 kr kr (Mh _ _ (gi ([aS,bJ,cf,fm]:List Int) vz) Ef (Z 9) 9 (hS.cell (id:=9) (t:=3) (cs:=[I Ef]) kr) ⟨by decide,by decide⟩) ?_))
    intro v485 a Xv abb hE hp hS
    replace hO:=hO.m2 hE
    obtain ⟨hp,Gn⟩:=hp
    obtain ⟨zo,hr⟩:∃ r,gX (gi ([aS,bJ,cf,fm]:List Int) vz) Ef=r:=⟨_,rfl⟩
    replace hm:=hm zo hr
    rw [hr] at Gn
    clear hr
    subst hp
    replace hS:=hS.cZ (id:=9) (t:=3) (cs:=[I zo]) kr Gn
    clear Gn
    refine gM (region (ePe T hS [] [(51,I (wR (vz+1)))] fun a hS=>?_))
    exact ⟨⟨wR (vz+1),zo⟩,⟨Z,_,hm.1,hS.sl _,hO⟩,hm.2⟩
   replace hm:=hm.2 hb
   refine cl (by rfl) ?_
   exact ⟨Z,_,Ef,hm,hS.sl _,hO⟩
  rintro a Xt ⟨Z,aa9,Eg,hm,hS,hO⟩
  unfold VC116_J2 at hm
  refine rP T hS ⟨[(4,I Eg)],[]⟩ fun a hS=>(aR ?_)
  exact fin T hS hO (fun c=>c) rfl (r:=[ii Eg]) kr (fun X' hM hC=>⟨_,hm,rfl⟩)
 clear hm
 refine vn (is:=[1,18]) kr (by decide) ?_
 intro i hi
 obtain ⟨Z,UL⟩:∃ q:Nat->Nat,q=Cp:=⟨Cp,rfl⟩
 subst UL
 rcases De hi with rfl | rfl
 ·refine mz (by rfl) (call hS kr kr hb158 kr (fun _ _=>rfl) (IC _ _ s_) ?_)
  intro v322 a X6 abM hE hp hS
  replace hO:=hO.m2 hE
  replace hD:=hD.ev hE rfl
  replace h105:=h105.m1 hE
  rw [IS] at hp
  subst hp
  replace hS:=hS.sle [] [(32,I aS)]
  refine cm (br.of hS (bks:=[3]) kr hD) ?_
  intro hH
  refine vn (is:=[4,18]) kr (by decide) ?_
  intro i hi
  rcases De hi with rfl | rfl
  ·have hq:=IT
   refine mz (by rfl) (call hS kr kr hb22 kr (fun _ _=>rfl) (Di _ _ l_ a1 c1 hq h105) ?_)
   intro v326 a X5 abL hE hp hS
   replace hO:=hO.m2 hE
   replace hD:=hD.ev hE rfl
   replace h105:=h105.m1 hE
   obtain ⟨Vs,Vg,hp,h332⟩:=hp
   rw [Gl] at hp h332
   subst hp
   replace hS:=hS.sle [] [(35,Sl Vs b9 Vg)]
   refine cm (br.of hS (bks:=[3]) kr hD) ?_
   intro hH
   refine tke T [5] [3] hS hH #[true,true,true,true,true,true,false,true,false,true,true,true,true,false,false,false,false,false,false,false] 9 [31,34,35] [(36,I (lN b9))] fun a hS=>(vn (is:=[6,18]) kr (by decide) ?_)
   intro i hi
   rcases De hi with rfl | rfl
   ·refine mz (by rfl) (call hS kr kr hb159 kr (fun _ _=>rfl) (Dj _ _ s_ (lN b9)) ?_)
    intro v333 a X4 abK hE hp hS
    replace hO:=hO.m2 hE
    replace hD:=hD.ev hE rfl
    have ⟨h105,h332⟩:=e2e hE h105.m1 h332.m1
    rw [Ds] at hp
    subst hp
    replace hS:=hS.sle [] [(37,I bJ)]
    refine cm (br.of hS (bks:=[3]) kr hD) ?_
    intro hH
    refine vn (is:=[8,18]) kr (by decide) ?_
    intro i hi
    rcases De hi with rfl | rfl
    ·refine mz (by rfl) (call hS kr kr hb160 kr (fun _ _=>rfl) (zX _ _ s_) ?_)
     intro v337 a X3 abJ hE hp hS
     replace hO:=hO.m2 hE
     replace hD:=hD.ev hE rfl
     have ⟨h105,h332⟩:=e2e hE h105.m1 h332.m1
     rw [Ag] at hp
     subst hp
     replace hS:=hS.sle [] [(39,I cf)]
     refine cm (br.of hS (bks:=[3]) kr hD) ?_
     intro hH
     refine vn (is:=[13,18]) kr (by decide) ?_
     intro i hi
     rcases De hi with rfl | rfl
     ·have hq:=tx
      refine mz (by rfl) (call hS kr kr hb162 kr (fun _ _=>rfl) (xQ _ _ l_ a1 c1 hq h105) ?_)
      intro v341 a X2 abI hE hp hS
      replace hO:=hO.m2 hE
      replace hD:=hD.ev hE rfl
      have ⟨h105,h332⟩:=e2e hE h105.m1 h332.m1
      obtain ⟨Vr,Vf,hp,h347⟩:=hp
      rw [rj] at hp h347
      subst hp
      replace hS:=hS.sle [] [(44,Sl Vr eu Vf)]
      refine cm (br.of hS (bks:=[3]) kr hD) ?_
      intro hH
      refine tke T [14,15] [3] hS hH #[true,true,true,true,true,true,true,true,true,true,true,true,true,true,true,true,false,false,false,false] 4 [33,36,38,42,43,44] [(46,I (wR (s_.Ops - (lN eu))))] fun a hS=>(vn (is:=[16,18]) kr (by decide) ?_)
      intro i hi
      rcases De hi with rfl | rfl
      ·refine mz (by rfl) (call hS kr kr hb161 kr (fun _ _=>rfl) (wq _ _ s_ (wR (s_.Ops - (lN eu)))) ?_)
       intro v348 a X1 abH hE hp hS
       replace hO:=hO.m2 hE
       replace hD:=hD.ev hE rfl
       have ⟨h105,h332,h347⟩:=e3e hE h105.m1 h332.m1 h347.m1
       rw [pL] at hp
       subst hp
       replace hS:=hS.sle [] [(47,I fm)]
       refine cm (br.of hS (bks:=[3]) kr hD) ?_
       intro hH
       refine tke T [17] [3] hS hH #[true,true,true,true,true,true,true,true,true,true,true,true,true,true,true,true,true,true,false,false] 2 [32,37,39,40,46,47] [(48,V (.agg #[ii aS,ii bJ,ii cf,ii fm]))] fun a hS=>?_
       replace hS:=hS.sl ⟨[(48,V (.agg #[ii aS,ii bJ,ii cf,ii fm]))],[(3,(61,[I s_.Ops,I s_.ab]))]⟩
       refine only 18 kr (by rfl) (AB T hS kr kr kr (sy':=⟨[(7,Pt 8 0),(48,V (.agg #[ii aS,ii bJ,ii cf,ii fm]))],[(8,(254,[I 0,I 0,I 0,I 0])),(3,(61,[I s_.Ops,I s_.ab]))]⟩) kr ?_)
       intro Z a XZ abG hS hE Kk
       replace hO:=hO.m2 hE
       replace hD:=hD.ev hE rfl
       have ⟨h105,h332,h347⟩:=e3e hE h105.m1 h332.m1 h347.m1
       replace hS:=hS.sl ⟨[(48,V (.agg #[ii aS,ii bJ,ii cf,ii fm])),(7,Pt 8 0)],[(3,(61,[I s_.Ops,I s_.ab])),(8,(254,[I 0,I 0,I 0,I 0]))]⟩
       refine cm ((br.of hS (bks:=[3]) kr hD).rho Kk kr) ?_
       intro hH
       exact H _ _ ⟨Z,_,Kk,hS.sl _,hO,hD,hH⟩
      replace hS:=hS.sl ⟨[(32,I aS),(37,I bJ),(39,I cf),(40,V (.agg #[ii s_.Ops,ii s_.ab])),(46,I (wR (s_.Ops - (lN eu))))],[(3,(61,[I s_.Ops,I s_.ab]))]⟩
      refine mz (by rfl) (AB T hS kr kr kr (sy':=⟨[(7,Pt 8 0),(32,I aS),(37,I bJ),(39,I cf),(40,V (.agg #[ii s_.Ops,ii s_.ab])),(46,I (wR (s_.Ops - (lN eu))))],[(8,(254,[I 0,I 0,I 0,I 0])),(3,(61,[I s_.Ops,I s_.ab]))]⟩) kr ?_)
      intro Z a XY abF hS hE BP
      replace hO:=hO.m2 hE
      replace hD:=hD.ev hE rfl
      have ⟨h105,h332,h347⟩:=e3e hE h105.m1 h332.m1 h347.m1
      replace hS:=hS.sl ⟨[(32,I aS),(37,I bJ),(39,I cf),(40,V (.agg #[ii s_.Ops,ii s_.ab])),(46,I (wR (s_.Ops - (lN eu)))),(7,Pt 8 0)],[(3,(61,[I s_.Ops,I s_.ab])),(8,(254,[I 0,I 0,I 0,I 0]))]⟩
      refine cm ((br.of hS (bks:=[3]) kr hD).rho BP kr) ?_
      intro hH
      refine only 16 kr (by rfl) (call hS kr kr hb161 kr (fun _ _=>rfl) (wq _ _ s_ (wR (s_.Ops - (lN eu)))) ?_)
      intro v358 a XX abE hE hp hS
      replace hO:=hO.m2 hE
      replace hD:=hD.ev hE rfl
      have ⟨h105,h332,h347⟩:=e3e hE h105.m1 h332.m1 h347.m1
      rw [pL] at hp
      subst hp
      replace hS:=hS.sle [] [(47,I fm)]
      refine cm ((br.of hS (bks:=[3]) kr hD).rho BP kr) ?_
      intro hH
      refine lD T BP kr [17] [3] [7,48] hS kr kr kr hH (listed':=#[true,true,true,true,true,true,true,true,true,true,true,true,true,true,true,true,true,true,true,false]) (fuel:=1) (sy':=⟨[(7,Pt 8 0),(48,V (.agg #[ii aS,ii bJ,ii cf,ii fm]))],[(3,(61,[I s_.Ops,I s_.ab])),(8,(254,[I 0,I 0,I 0,I 0]))]⟩) kr (by rfl) ?_
      intro a hS
      exact H _ _ ⟨Z,_,BP,hS.sl _,hO,hD,hH⟩
     replace hS:=hS.sl ⟨[(32,I aS),(33,V (.agg #[ii s_.Ops,ii s_.ab])),(36,I (lN b9)),(38,V (.agg #[ii s_.Ops,ii s_.ab])),(40,V (.agg #[ii s_.Ops,ii s_.ab])),(42,I s_.Ops),(43,Sl a1 l_ c1),(37,I bJ),(39,I cf)],[(3,(61,[I s_.Ops,I s_.ab]))]⟩
     refine mz (by rfl) (AB T hS kr kr kr (sy':=⟨[(7,Pt 8 0),(32,I aS),(33,V (.agg #[ii s_.Ops,ii s_.ab])),(36,I (lN b9)),(38,V (.agg #[ii s_.Ops,ii s_.ab])),(40,V (.agg #[ii s_.Ops,ii s_.ab])),(42,I s_.Ops),(43,Sl a1 l_ c1),(37,I bJ),(39,I cf)],[(8,(254,[I 0,I 0,I 0,I 0])),(3,(61,[I s_.Ops,I s_.ab]))]⟩) kr ?_)
     intro Z a XW abD hS hE uY
     replace hO:=hO.m2 hE
     replace hD:=hD.ev hE rfl
     have ⟨h105,h332⟩:=e2e hE h105.m1 h332.m1
     replace hS:=hS.sl ⟨[(32,I aS),(33,V (.agg #[ii s_.Ops,ii s_.ab])),(36,I (lN b9)),(38,V (.agg #[ii s_.Ops,ii s_.ab])),(40,V (.agg #[ii s_.Ops,ii s_.ab])),(42,I s_.Ops),(43,Sl a1 l_ c1),(37,I bJ),(39,I cf),(7,Pt 8 0)],[(3,(61,[I s_.Ops,I s_.ab])),(8,(254,[I 0,I 0,I 0,I 0]))]⟩
     refine cm ((br.of hS (bks:=[3]) kr hD).rho uY kr) ?_
     intro hH
     have hq:=tx
     refine only 13 kr (by rfl) (call hS kr kr hb162 kr (fun _ _=>rfl) (xQ _ _ l_ a1 c1 hq h105) ?_)
     intro v365 a XV abC hE hp hS
     replace hO:=hO.m2 hE
     replace hD:=hD.ev hE rfl
     have ⟨h105,h332⟩:=e2e hE h105.m1 h332.m1
     obtain ⟨Vq,Ve,hp,h371⟩:=hp
     rw [rj] at hp h371
     subst hp
     replace hS:=hS.sle [] [(44,Sl Vq eu Ve)]
     refine cm ((br.of hS (bks:=[3]) kr hD).rho uY kr) ?_
     intro hH
     refine lD T uY kr [14,15] [3] [7,32,37,39,40,46] hS kr kr kr hH (listed':=#[true,true,true,true,true,true,true,true,true,true,true,true,true,true,true,true,false,false,true,false]) (fuel:=3) (sy':=⟨[(7,Pt 8 0),(32,I aS),(37,I bJ),(39,I cf),(40,V (.agg #[ii s_.Ops,ii s_.ab])),(46,I (wR (s_.Ops - (lN eu))))],[(3,(61,[I s_.Ops,I s_.ab])),(8,(254,[I 0,I 0,I 0,I 0]))]⟩) kr (by rfl) ?_
     intro a hS
     refine only 16 kr (by rfl) (call hS kr kr hb161 kr (fun _ _=>rfl) (wq _ _ s_ (wR (s_.Ops - (lN eu)))) ?_)
     intro v372 a XU abB hE hp hS
     replace hO:=hO.m2 hE
     replace hD:=hD.ev hE rfl
     have ⟨h105,h332,h371⟩:=e3e hE h105.m1 h332.m1 h371.m1
     rw [pL] at hp
     subst hp
     replace hS:=hS.sle [] [(47,I fm)]
     refine cm ((br.of hS (bks:=[3]) kr hD).rho uY kr) ?_
     intro hH
     refine lD T uY kr [17] [3] [7,48] hS kr kr kr hH (listed':=#[true,true,true,true,true,true,true,true,true,true,true,true,true,true,true,true,true,true,true,false]) (fuel:=1) (sy':=⟨[(7,Pt 8 0),(48,V (.agg #[ii aS,ii bJ,ii cf,ii fm]))],[(3,(61,[I s_.Ops,I s_.ab])),(8,(254,[I 0,I 0,I 0,I 0]))]⟩) kr (by rfl) ?_
     intro a hS
     exact H _ _ ⟨Z,_,uY,hS.sl _,hO,hD,hH⟩
    replace hS:=hS.sl ⟨[(32,I aS),(33,V (.agg #[ii s_.Ops,ii s_.ab])),(36,I (lN b9)),(38,V (.agg #[ii s_.Ops,ii s_.ab])),(40,V (.agg #[ii s_.Ops,ii s_.ab])),(42,I s_.Ops),(43,Sl a1 l_ c1),(37,I bJ)],[(3,(61,[I s_.Ops,I s_.ab]))]⟩
    refine mz (by rfl) (AB T hS kr kr kr (sy':=⟨[(7,Pt 8 0),(32,I aS),(33,V (.agg #[ii s_.Ops,ii s_.ab])),(36,I (lN b9)),(38,V (.agg #[ii s_.Ops,ii s_.ab])),(40,V (.agg #[ii s_.Ops,ii s_.ab])),(42,I s_.Ops),(43,Sl a1 l_ c1),(37,I bJ)],[(8,(254,[I 0,I 0,I 0,I 0])),(3,(61,[I s_.Ops,I s_.ab]))]⟩) kr ?_)
    intro Z a XT abA hS hE tw
    replace hO:=hO.m2 hE
    replace hD:=hD.ev hE rfl
    have ⟨h105,h332⟩:=e2e hE h105.m1 h332.m1
    replace hS:=hS.sl ⟨[(32,I aS),(33,V (.agg #[ii s_.Ops,ii s_.ab])),(36,I (lN b9)),(38,V (.agg #[ii s_.Ops,ii s_.ab])),(40,V (.agg #[ii s_.Ops,ii s_.ab])),(42,I s_.Ops),(43,Sl a1 l_ c1),(37,I bJ),(7,Pt 8 0)],[(3,(61,[I s_.Ops,I s_.ab])),(8,(254,[I 0,I 0,I 0,I 0]))]⟩
    refine cm ((br.of hS (bks:=[3]) kr hD).rho tw kr) ?_
    intro hH
    refine only 8 kr (by rfl) (call hS kr kr hb160 kr (fun _ _=>rfl) (zX _ _ s_) ?_)
    intro v379 a XS abz hE hp hS
    replace hO:=hO.m2 hE
    replace hD:=hD.ev hE rfl
    have ⟨h105,h332⟩:=e2e hE h105.m1 h332.m1
    rw [Ag] at hp
    subst hp
    replace hS:=hS.sle [] [(39,I cf)]
    refine cm ((br.of hS (bks:=[3]) kr hD).rho tw kr) ?_
    intro hH
    have hq:=tx
    refine only 13 kr (by rfl) (call hS kr kr hb162 kr (fun _ _=>rfl) (xQ _ _ l_ a1 c1 hq h105) ?_)
    intro v383 a XR aby hE hp hS
    replace hO:=hO.m2 hE
    replace hD:=hD.ev hE rfl
    have ⟨h105,h332⟩:=e2e hE h105.m1 h332.m1
    obtain ⟨Vp,Vd,hp,h389⟩:=hp
    rw [rj] at hp h389
    subst hp
    replace hS:=hS.sle [] [(44,Sl Vp eu Vd)]
    refine cm ((br.of hS (bks:=[3]) kr hD).rho tw kr) ?_
    intro hH
    refine lD T tw kr [14,15] [3] [7,32,37,39,40,46] hS kr kr kr hH (listed':=#[true,true,true,true,true,true,true,true,true,true,true,true,true,true,true,true,false,false,true,false]) (fuel:=3) (sy':=⟨[(7,Pt 8 0),(32,I aS),(37,I bJ),(39,I cf),(40,V (.agg #[ii s_.Ops,ii s_.ab])),(46,I (wR (s_.Ops - (lN eu))))],[(3,(61,[I s_.Ops,I s_.ab])),(8,(254,[I 0,I 0,I 0,I 0]))]⟩) kr (by rfl) ?_
    intro a hS
    refine only 16 kr (by rfl) (call hS kr kr hb161 kr (fun _ _=>rfl) (wq _ _ s_ (wR (s_.Ops - (lN eu)))) ?_)
    intro v390 a XQ abx hE hp hS
    replace hO:=hO.m2 hE
    replace hD:=hD.ev hE rfl
    have ⟨h105,h332,h389⟩:=e3e hE h105.m1 h332.m1 h389.m1
    rw [pL] at hp
    subst hp
    replace hS:=hS.sle [] [(47,I fm)]
    refine cm ((br.of hS (bks:=[3]) kr hD).rho tw kr) ?_
    intro hH
    refine lD T tw kr [17] [3] [7,48] hS kr kr kr hH (listed':=#[true,true,true,true,true,true,true,true,true,true,true,true,true,true,true,true,true,true,true,false]) (fuel:=1) (sy':=⟨[(7,Pt 8 0),(48,V (.agg #[ii aS,ii bJ,ii cf,ii fm]))],[(3,(61,[I s_.Ops,I s_.ab])),(8,(254,[I 0,I 0,I 0,I 0]))]⟩) kr (by rfl) ?_
    intro a hS
    exact H _ _ ⟨Z,_,tw,hS.sl _,hO,hD,hH⟩
   replace hS:=hS.sl ⟨[(32,I aS),(33,V (.agg #[ii s_.Ops,ii s_.ab])),(36,I (lN b9)),(38,V (.agg #[ii s_.Ops,ii s_.ab])),(40,V (.agg #[ii s_.Ops,ii s_.ab])),(42,I s_.Ops),(43,Sl a1 l_ c1)],[(3,(61,[I s_.Ops,I s_.ab]))]⟩
   refine mz (by rfl) (AB T hS kr kr kr (sy':=⟨[(7,Pt 8 0),(32,I aS),(33,V (.agg #[ii s_.Ops,ii s_.ab])),(36,I (lN b9)),(38,V (.agg #[ii s_.Ops,ii s_.ab])),(40,V (.agg #[ii s_.Ops,ii s_.ab])),(42,I s_.Ops),(43,Sl a1 l_ c1)],[(8,(254,[I 0,I 0,I 0,I 0])),(3,(61,[I s_.Ops,I s_.ab]))]⟩) kr ?_)
   intro Z a XP abw hS hE ri
   replace hO:=hO.m2 hE
   replace hD:=hD.ev hE rfl
   have ⟨h105,h332⟩:=e2e hE h105.m1 h332.m1
   replace hS:=hS.sl ⟨[(32,I aS),(33,V (.agg #[ii s_.Ops,ii s_.ab])),(36,I (lN b9)),(38,V (.agg #[ii s_.Ops,ii s_.ab])),(40,V (.agg #[ii s_.Ops,ii s_.ab])),(42,I s_.Ops),(43,Sl a1 l_ c1),(7,Pt 8 0)],[(3,(61,[I s_.Ops,I s_.ab])),(8,(254,[I 0,I 0,I 0,I 0]))]⟩
   refine cm ((br.of hS (bks:=[3]) kr hD).rho ri kr) ?_
   intro hH
   refine only 6 kr (by rfl) (call hS kr kr hb159 kr (fun _ _=>rfl) (Dj _ _ s_ (lN b9)) ?_)
   intro v397 a XO abv hE hp hS
   replace hO:=hO.m2 hE
   replace hD:=hD.ev hE rfl
   have ⟨h105,h332⟩:=e2e hE h105.m1 h332.m1
   rw [Ds] at hp
   subst hp
   replace hS:=hS.sle [] [(37,I bJ)]
   refine cm ((br.of hS (bks:=[3]) kr hD).rho ri kr) ?_
   intro hH
   refine only 8 kr (by rfl) (call hS kr kr hb160 kr (fun _ _=>rfl) (zX _ _ s_) ?_)
   intro v401 a XN abu hE hp hS
   replace hO:=hO.m2 hE
   replace hD:=hD.ev hE rfl
   have ⟨h105,h332⟩:=e2e hE h105.m1 h332.m1
   rw [Ag] at hp
   subst hp
   replace hS:=hS.sle [] [(39,I cf)]
   refine cm ((br.of hS (bks:=[3]) kr hD).rho ri kr) ?_
   intro hH
   have hq:=tx
   refine only 13 kr (by rfl) (call hS kr kr hb162 kr (fun _ _=>rfl) (xQ _ _ l_ a1 c1 hq h105) ?_)
   intro v405 a XM abt hE hp hS
   replace hO:=hO.m2 hE
   replace hD:=hD.ev hE rfl
   have ⟨h105,h332⟩:=e2e hE h105.m1 h332.m1
   obtain ⟨Vo,Vc,hp,h411⟩:=hp
   rw [rj] at hp h411
   subst hp
   replace hS:=hS.sle [] [(44,Sl Vo eu Vc)]
   refine cm ((br.of hS (bks:=[3]) kr hD).rho ri kr) ?_
   intro hH
   refine lD T ri kr [14,15] [3] [7,32,37,39,40,46] hS kr kr kr hH (listed':=#[true,true,true,true,true,true,true,true,true,true,true,true,true,true,true,true,false,false,true,false]) (fuel:=3) (sy':=⟨[(7,Pt 8 0),(32,I aS),(37,I bJ),(39,I cf),(40,V (.agg #[ii s_.Ops,ii s_.ab])),(46,I (wR (s_.Ops - (lN eu))))],[(3,(61,[I s_.Ops,I s_.ab])),(8,(254,[I 0,I 0,I 0,I 0]))]⟩) kr (by rfl) ?_
   intro a hS
   refine only 16 kr (by rfl) (call hS kr kr hb161 kr (fun _ _=>rfl) (wq _ _ s_ (wR (s_.Ops - (lN eu)))) ?_)
   intro v412 a XL abr hE hp hS
   replace hO:=hO.m2 hE
   replace hD:=hD.ev hE rfl
   have ⟨h105,h332,h411⟩:=e3e hE h105.m1 h332.m1 h411.m1
   rw [pL] at hp
   subst hp
   replace hS:=hS.sle [] [(47,I fm)]
   refine cm ((br.of hS (bks:=[3]) kr hD).rho ri kr) ?_
   intro hH
   refine lD T ri kr [17] [3] [7,48] hS kr kr kr hH (listed':=#[true,true,true,true,true,true,true,true,true,true,true,true,true,true,true,true,true,true,true,false]) (fuel:=1) (sy':=⟨[(7,Pt 8 0),(48,V (.agg #[ii aS,ii bJ,ii cf,ii fm]))],[(3,(61,[I s_.Ops,I s_.ab])),(8,(254,[I 0,I 0,I 0,I 0]))]⟩) kr (by rfl) ?_
   intro a hS
   exact H _ _ ⟨Z,_,ri,hS.sl _,hO,hD,hH⟩
  replace hS:=hS.sl ⟨[(31,V (.agg #[ii s_.Ops,ii s_.ab])),(33,V (.agg #[ii s_.Ops,ii s_.ab])),(34,Sl a1 l_ c1),(38,V (.agg #[ii s_.Ops,ii s_.ab])),(40,V (.agg #[ii s_.Ops,ii s_.ab])),(42,I s_.Ops),(43,Sl a1 l_ c1),(32,I aS)],[(3,(61,[I s_.Ops,I s_.ab]))]⟩
  refine mz (by rfl) (AB T hS kr kr kr (sy':=⟨[(7,Pt 8 0),(31,V (.agg #[ii s_.Ops,ii s_.ab])),(33,V (.agg #[ii s_.Ops,ii s_.ab])),(34,Sl a1 l_ c1),(38,V (.agg #[ii s_.Ops,ii s_.ab])),(40,V (.agg #[ii s_.Ops,ii s_.ab])),(42,I s_.Ops),(43,Sl a1 l_ c1),(32,I aS)],[(8,(254,[I 0,I 0,I 0,I 0])),(3,(61,[I s_.Ops,I s_.ab]))]⟩) kr ?_)
  intro Z a XK abq hS hE oa
  replace hO:=hO.m2 hE
  replace hD:=hD.ev hE rfl
  replace h105:=h105.m1 hE
  replace hS:=hS.sl ⟨[(31,V (.agg #[ii s_.Ops,ii s_.ab])),(33,V (.agg #[ii s_.Ops,ii s_.ab])),(34,Sl a1 l_ c1),(38,V (.agg #[ii s_.Ops,ii s_.ab])),(40,V (.agg #[ii s_.Ops,ii s_.ab])),(42,I s_.Ops),(43,Sl a1 l_ c1),(32,I aS),(7,Pt 8 0)],[(3,(61,[I s_.Ops,I s_.ab])),(8,(254,[I 0,I 0,I 0,I 0]))]⟩
  refine cm ((br.of hS (bks:=[3]) kr hD).rho oa kr) ?_
  intro hH
  have hq:=IT
  refine only 4 kr (by rfl) (call hS kr kr hb22 kr (fun _ _=>rfl) (Di _ _ l_ a1 c1 hq h105) ?_)
  intro v419 a XJ abp hE hp hS
  replace hO:=hO.m2 hE
  replace hD:=hD.ev hE rfl
  replace h105:=h105.m1 hE
  obtain ⟨Vn,Vb,hp,h425⟩:=hp
  rw [Gl] at hp h425
  subst hp
  replace hS:=hS.sle [] [(35,Sl Vn b9 Vb)]
  refine cm ((br.of hS (bks:=[3]) kr hD).rho oa kr) ?_
  intro hH
  refine lD T oa kr [5] [3] [7,32,33,36,38,40,42,43] hS kr kr kr hH (listed':=#[true,true,true,true,true,true,false,true,false,true,true,true,true,false,false,false,false,false,true,false]) (fuel:=8) (sy':=⟨[(7,Pt 8 0),(32,I aS),(33,V (.agg #[ii s_.Ops,ii s_.ab])),(36,I (lN b9)),(38,V (.agg #[ii s_.Ops,ii s_.ab])),(40,V (.agg #[ii s_.Ops,ii s_.ab])),(42,I s_.Ops),(43,Sl a1 l_ c1)],[(3,(61,[I s_.Ops,I s_.ab])),(8,(254,[I 0,I 0,I 0,I 0]))]⟩) kr (by rfl) ?_
  intro a hS
  refine only 6 kr (by rfl) (call hS kr kr hb159 kr (fun _ _=>rfl) (Dj _ _ s_ (lN b9)) ?_)
  intro v426 a XI abo hE hp hS
  replace hO:=hO.m2 hE
  replace hD:=hD.ev hE rfl
  have ⟨h105,h425⟩:=e2e hE h105.m1 h425.m1
  rw [Ds] at hp
  subst hp
  replace hS:=hS.sle [] [(37,I bJ)]
  refine cm ((br.of hS (bks:=[3]) kr hD).rho oa kr) ?_
  intro hH
  refine only 8 kr (by rfl) (call hS kr kr hb160 kr (fun _ _=>rfl) (zX _ _ s_) ?_)
  intro v430 a XH abn hE hp hS
  replace hO:=hO.m2 hE
  replace hD:=hD.ev hE rfl
  have ⟨h105,h425⟩:=e2e hE h105.m1 h425.m1
  rw [Ag] at hp
  subst hp
  replace hS:=hS.sle [] [(39,I cf)]
  refine cm ((br.of hS (bks:=[3]) kr hD).rho oa kr) ?_
  intro hH
  have hq:=tx
  refine only 13 kr (by rfl) (call hS kr kr hb162 kr (fun _ _=>rfl) (xQ _ _ l_ a1 c1 hq h105) ?_)
  intro v434 a XG abm hE hp hS
  replace hO:=hO.m2 hE
  replace hD:=hD.ev hE rfl
  have ⟨h105,h425⟩:=e2e hE h105.m1 h425.m1
  obtain ⟨Vm,Va,hp,h440⟩:=hp
  rw [rj] at hp h440
  subst hp
  replace hS:=hS.sle [] [(44,Sl Vm eu Va)]
  refine cm ((br.of hS (bks:=[3]) kr hD).rho oa kr) ?_
  intro hH
  refine lD T oa kr [14,15] [3] [7,32,37,39,40,46] hS kr kr kr hH (listed':=#[true,true,true,true,true,true,true,true,true,true,true,true,true,true,true,true,false,false,true,false]) (fuel:=3) (sy':=⟨[(7,Pt 8 0),(32,I aS),(37,I bJ),(39,I cf),(40,V (.agg #[ii s_.Ops,ii s_.ab])),(46,I (wR (s_.Ops - (lN eu))))],[(3,(61,[I s_.Ops,I s_.ab])),(8,(254,[I 0,I 0,I 0,I 0]))]⟩) kr (by rfl) ?_
  intro a hS
  refine only 16 kr (by rfl) (call hS kr kr hb161 kr (fun _ _=>rfl) (wq _ _ s_ (wR (s_.Ops - (lN eu)))) ?_)
  intro v441 a XF abl hE hp hS
  replace hO:=hO.m2 hE
  replace hD:=hD.ev hE rfl
  have ⟨h105,h425,h440⟩:=e3e hE h105.m1 h425.m1 h440.m1
  rw [pL] at hp
  subst hp
  replace hS:=hS.sle [] [(47,I fm)]
  refine cm ((br.of hS (bks:=[3]) kr hD).rho oa kr) ?_
  intro hH
  refine lD T oa kr [17] [3] [7,48] hS kr kr kr hH (listed':=#[true,true,true,true,true,true,true,true,true,true,true,true,true,true,true,true,true,true,true,false]) (fuel:=1) (sy':=⟨[(7,Pt 8 0),(48,V (.agg #[ii aS,ii bJ,ii cf,ii fm]))],[(3,(61,[I s_.Ops,I s_.ab])),(8,(254,[I 0,I 0,I 0,I 0]))]⟩) kr (by rfl) ?_
  intro a hS
  exact H _ _ ⟨Z,_,oa,hS.sl _,hO,hD,hH⟩
 replace hS:=hS.sl ⟨[(31,V (.agg #[ii s_.Ops,ii s_.ab])),(33,V (.agg #[ii s_.Ops,ii s_.ab])),(34,Sl a1 l_ c1),(38,V (.agg #[ii s_.Ops,ii s_.ab])),(40,V (.agg #[ii s_.Ops,ii s_.ab])),(42,I s_.Ops),(43,Sl a1 l_ c1)],[(3,(61,[I s_.Ops,I s_.ab]))]⟩
 refine mz (by rfl) (AB T hS kr kr kr (sy':=⟨[(7,Pt 8 0),(31,V (.agg #[ii s_.Ops,ii s_.ab])),(33,V (.agg #[ii s_.Ops,ii s_.ab])),(34,Sl a1 l_ c1),(38,V (.agg #[ii s_.Ops,ii s_.ab])),(40,V (.agg #[ii s_.Ops,ii s_.ab])),(42,I s_.Ops),(43,Sl a1 l_ c1)],[(8,(254,[I 0,I 0,I 0,I 0])),(3,(61,[I s_.Ops,I s_.ab]))]⟩) kr ?_)
 intro Z a XE abk hS hE na
 replace hO:=hO.m2 hE
 replace hD:=hD.ev hE rfl
 replace h105:=h105.m1 hE
 replace hS:=hS.sl ⟨[(31,V (.agg #[ii s_.Ops,ii s_.ab])),(33,V (.agg #[ii s_.Ops,ii s_.ab])),(34,Sl a1 l_ c1),(38,V (.agg #[ii s_.Ops,ii s_.ab])),(40,V (.agg #[ii s_.Ops,ii s_.ab])),(42,I s_.Ops),(43,Sl a1 l_ c1),(7,Pt 8 0)],[(3,(61,[I s_.Ops,I s_.ab])),(8,(254,[I 0,I 0,I 0,I 0]))]⟩
 refine cm ((br.of hS (bks:=[3]) kr hD).rho na kr) ?_
 intro hH
 refine only 1 kr (by rfl) (call hS kr kr hb158 kr (fun _ _=>rfl) (IC _ _ s_) ?_)
 intro v448 a XD abj hE hp hS
 replace hO:=hO.m2 hE
 replace hD:=hD.ev hE rfl
 replace h105:=h105.m1 hE
 rw [IS] at hp
 subst hp
 replace hS:=hS.sle [] [(32,I aS)]
 refine cm ((br.of hS (bks:=[3]) kr hD).rho na kr) ?_
 intro hH
 have hq:=IT
 refine only 4 kr (by rfl) (call hS kr kr hb22 kr (fun _ _=>rfl) (Di _ _ l_ a1 c1 hq h105) ?_)
 intro v452 a XC abi hE hp hS
 replace hO:=hO.m2 hE
 replace hD:=hD.ev hE rfl
 replace h105:=h105.m1 hE
 obtain ⟨Vl,U9,hp,h458⟩:=hp
 rw [Gl] at hp h458
 subst hp
 replace hS:=hS.sle [] [(35,Sl Vl b9 U9)]
 refine cm ((br.of hS (bks:=[3]) kr hD).rho na kr) ?_
 intro hH
 refine lD T na kr [5] [3] [7,32,33,36,38,40,42,43] hS kr kr kr hH (listed':=#[true,true,true,true,true,true,false,true,false,true,true,true,true,false,false,false,false,false,true,false]) (fuel:=8) (sy':=⟨[(7,Pt 8 0),(32,I aS),(33,V (.agg #[ii s_.Ops,ii s_.ab])),(36,I (lN b9)),(38,V (.agg #[ii s_.Ops,ii s_.ab])),(40,V (.agg #[ii s_.Ops,ii s_.ab])),(42,I s_.Ops),(43,Sl a1 l_ c1)],[(3,(61,[I s_.Ops,I s_.ab])),(8,(254,[I 0,I 0,I 0,I 0]))]⟩) kr (by rfl) ?_
 intro a hS
 refine only 6 kr (by rfl) (call hS kr kr hb159 kr (fun _ _=>rfl) (Dj _ _ s_ (lN b9)) ?_)
 intro v459 a XB abh hE hp hS
 replace hO:=hO.m2 hE
 replace hD:=hD.ev hE rfl
 have ⟨h105,h458⟩:=e2e hE h105.m1 h458.m1
 rw [Ds] at hp
 subst hp
 replace hS:=hS.sle [] [(37,I bJ)]
 refine cm ((br.of hS (bks:=[3]) kr hD).rho na kr) ?_
 intro hH
 refine only 8 kr (by rfl) (call hS kr kr hb160 kr (fun _ _=>rfl) (zX _ _ s_) ?_)
 intro v463 a XA abg hE hp hS
 replace hO:=hO.m2 hE
 replace hD:=hD.ev hE rfl
 have ⟨h105,h458⟩:=e2e hE h105.m1 h458.m1
 rw [Ag] at hp
 subst hp
 replace hS:=hS.sle [] [(39,I cf)]
 refine cm ((br.of hS (bks:=[3]) kr hD).rho na kr) ?_
 intro hH
 have hq:=tx
 refine only 13 kr (by rfl) (call hS kr kr hb162 kr (fun _ _=>rfl) (xQ _ _ l_ a1 c1 hq h105) ?_)
 intro v467 a Xz abf hE hp hS
 replace hO:=hO.m2 hE
 replace hD:=hD.ev hE rfl
 have ⟨h105,h458⟩:=e2e hE h105.m1 h458.m1
 obtain ⟨Vk,U8,hp,h473⟩:=hp
 rw [rj] at hp h473
 subst hp
 replace hS:=hS.sle [] [(44,Sl Vk eu U8)]
 refine cm ((br.of hS (bks:=[3]) kr hD).rho na kr) ?_
 intro hH
 refine lD T na kr [14,15] [3] [7,32,37,39,40,46] hS kr kr kr hH (listed':=#[true,true,true,true,true,true,true,true,true,true,true,true,true,true,true,true,false,false,true,false]) (fuel:=3) (sy':=⟨[(7,Pt 8 0),(32,I aS),(37,I bJ),(39,I cf),(40,V (.agg #[ii s_.Ops,ii s_.ab])),(46,I (wR (s_.Ops - (lN eu))))],[(3,(61,[I s_.Ops,I s_.ab])),(8,(254,[I 0,I 0,I 0,I 0]))]⟩) kr (by rfl) ?_
 intro a hS
 refine only 16 kr (by rfl) (call hS kr kr hb161 kr (fun _ _=>rfl) (wq _ _ s_ (wR (s_.Ops - (lN eu)))) ?_)
 intro v474 a Xy abe hE hp hS
 replace hO:=hO.m2 hE
 replace hD:=hD.ev hE rfl
 have ⟨h105,h458,h473⟩:=e3e hE h105.m1 h458.m1 h473.m1
 rw [pL] at hp
 subst hp
 replace hS:=hS.sle [] [(47,I fm)]
 refine cm ((br.of hS (bks:=[3]) kr hD).rho na kr) ?_
 intro hH
 refine lD T na kr [17] [3] [7,48] hS kr kr kr hH (listed':=#[true,true,true,true,true,true,true,true,true,true,true,true,true,true,true,true,true,true,true,false]) (fuel:=1) (sy':=⟨[(7,Pt 8 0),(48,V (.agg #[ii aS,ii bJ,ii cf,ii fm]))],[(3,(61,[I s_.Ops,I s_.ab])),(8,(254,[I 0,I 0,I 0,I 0]))]⟩) kr (by rfl) ?_
 intro a hS
 exact H _ _ ⟨Z,_,na,hS.sl _,hO,hD,hH⟩
theorem C116 (ml:S157) (IC:S158) (Dj:S159) (zX:S160) (wq:S161) (xQ:S162) (Mh:S163) (Di:S22) (zT:S56) (v:∀ (s_:aa) (l_:List ae),VC116 s_ l_ (fun r=>r=fX s_ l_)):S116:=fun w X s_ l_ a1 c1 h1=>mo1 (W116 ml IC Dj zX wq xQ Mh Di zT w X s_ l_ a1 c1 _ (v s_ l_) h1)
theorem W57 (Mt:S116) (zU:S25) (w0) (X0) (s_:aa) (l_:List ae) (a1) (c1) (Q:Int->Prop) (hm:VC57 s_ l_ Q) (h1:RS ar w0 X0 a1 l_ c1) :
  rt 57 #[.agg #[ii s_.Ops,ii s_.ab],.slice a1 l_.length c1] aB w0 X0 (fun w X' v=>∃ r,Q r/\v=ii r):=by
 unfold VC57 at hm
 replace hm:=hm (h1.sm kr)
 refine enter Tryz.func57 rfl (vals:=[.agg #[ii s_.Ops,ii s_.ab],.slice a1 l_.length c1]) kr ?_
 intro Z a hS hO hM
 replace h1:=h1.m0 hM
 refine rM T hS ⟨[(1,Sl a1 l_ c1),(2,Pt 3 0)],[(3,(61,[I s_.Ops,I s_.ab]))]⟩ fun Z a EF AP hS hE hr=>?_
 have ⟨hO,h1⟩:=e2e hE hO.m2 h1.m1
 clear hE hr
 refine a8 (bk ?_)
 refine oPe T hS 2 [1] [(6,V (.agg #[ii s_.Ops,ii s_.ab])),(7,Sl a1 l_ c1)] fun a hS=>(op1 (call hS kr kr hb116 kr (fun _ _=>rfl) (Mt _ _ s_ l_ a1 c1 h1) ?_))
 intro v101 a eI eN hE hp hS
 have ⟨hO,h1⟩:=e2e hE hO.m2 h1.m1
 generalize hr:fX s_ l_=al at hp
 replace hm:=hm al hr
 subst hp
 refine ePe T hS [6,7,8] [(5,I al)] fun a hS=>(aH ?_)
 refine rPe T hS [] [(9,B (al == 0))] fun a hS=>(aC hS (b:=(al == 0)) kr (fun hb=>?_) fun hb=>?_)
 ·replace hm:=hm.1 hb
  refine rP T hS ⟨[(4,I 2)],[]⟩ fun a hS=>(aR ?_)
  exact fin T hS hO (fun c=>c) rfl (r:=[ii 2]) kr (fun X' hM hC=>⟨2,hm,rfl⟩)
 replace hm:=hm.2 hb
 refine cg (fun a w=>∃ Z X,∃ (cN:Bool),VC57_J1 Q cN/\St Tryz.f57.ntmps ⟨[(12,B cN)],[]⟩ Z a w X/\Old w0 X0 w X) ?_ ?_
 ·refine region (oPe T hS 3 [5,9] [(15,B (decide (al > 500000)))] fun a hS=>?_)
  rcases bft (decide (al > 500000)) with hb | hb
  ·replace hS:=hS.lit (t:=15) kr hb
   replace hm:=hm.1 hb
   refine eP T hS ⟨[(12,B true)],[]⟩ fun a hS=>?_
   exact ⟨Z,_,true,hm,hS.sl _,hO⟩
  replace hS:=hS.lit (t:=15) kr hb
  replace hm:=hm.2 hb
  refine oP T hS 1 ⟨[(15,B false),(16,V (.agg #[ii s_.Ops,ii s_.ab]))],[]⟩ fun a hS=>(op1 (call hS kr kr hb25 kr (fun _ _=>rfl) (zU _ _ s_) ?_))
  intro v106 a o8 oV hE hp hS
  replace hO:=hO.m2 hE
  generalize hr:aw s_=ga at hp
  replace hm:=hm ga hr
  subst hp
  refine ePe T hS [15,16,17] [(12,B (decide (ga > 900)))] fun a hS=>?_
  exact ⟨Z,_,decide (ga > 900),hm,hS.sl _,hO⟩
 rintro a y6 ⟨Z,um,cN,hm,hS,hO⟩
 unfold VC57_J1 at hm
 refine aC hS (b:=cN) kr (fun hb=>?_) fun hb=>?_
 ·replace hm:=hm.1 hb
  refine rPe T hS [12] [(4,I 3)] fun a hS=>(aR ?_)
  exact fin T hS hO (fun c=>c) rfl (r:=[ii 3]) kr (fun X' hM hC=>⟨3,hm,rfl⟩)
 replace hm:=hm.2 hb
 refine aI (rPe T hS [12] [(4,I 0)] fun a hS=>?_)
 refine aR ?_
 exact fin T hS hO (fun c=>c) rfl (r:=[ii 0]) kr (fun X' hM hC=>⟨0,hm,rfl⟩)
theorem C57 (Mt:S116) (zU:S25) (v:∀ (s_:aa) (l_:List ae),VC57 s_ l_ (fun r=>r=fu s_ l_)):S57:=fun w X s_ l_ a1 c1 h1=>mo1 (W57 Mt zU w X s_ l_ a1 c1 _ (v s_ l_) h1)
theorem W18 (wo:S34) (FV:S55) (zT:S56) (L5:S57) (w0) (X0) (o_:ah) (l_:List ae) (a1) (c1) (a2) (c2) (Q:aa × Int->Prop) (hm:VC18 o_ l_ Q) (h1:RS aF w0 X0 a1 o_.Rows c1) (h2:RS ar w0 X0 a2 l_ c2) :
  rt 18 #[.agg #[ii o_.ab,ii o_.aP,ii o_.aU,.slice a1 o_.Rows.length c1],.slice a2 l_.length c2] aB w0 X0 (fun w X' v=>∃ r,Q r/\v=.tuple #[.agg #[ii r.1.Ops,ii r.1.ab],ii r.2]):=by
 unfold VC18 at hm
 replace hm:=hm (h1.sm kr)
 replace hm:=hm (h2.sm kr)
 refine enter Tryz.func18 rfl (vals:=[.agg #[ii o_.ab,ii o_.aP,ii o_.aU,.slice a1 o_.Rows.length c1],.slice a2 l_.length c2]) kr ?_
 intro Z a hS hO hM
 replace h1:=h1.m0 hM
 replace h2:=h2.m0 hM
 refine rM T hS ⟨[(1,Sl a2 l_ c2),(2,Pt 3 0),(4,Pt 5 0)],[(3,(24,(cO o_ a1 c1))),(5,(61,[I 0,I 0]))]⟩ fun Z a vE AN hS hE hr=>?_
 have ⟨hO,h1,h2⟩:=e3e hE hO.m2 h1.m1 h2.m1
 clear hE hr
 refine bk (oPe T hS 1 [] [(12,V (.agg #[ii o_.ab,ii o_.aP,ii o_.aU,.slice a1 o_.Rows.length c1]))] fun a hS=>?_)
 obtain ⟨hq,hm⟩:=hm
 refine op1 (call hS kr kr hb55 kr (fun _ _=>rfl) (FV _ _ o_ a1 c1 hq h1) ?_)
 intro v101 a eI eN hE hp hS
 have ⟨hO,h1,h2⟩:=e3e hE hO.m2 h1.m1 h2.m1
 generalize hr:bq o_=al at hp
 replace hm:=hm al hr
 subst hp
 refine ePe T hS [12,13] [(7,I al.2)] fun a hS=>(bk ?_)
 refine oPe T hS 1 [] [(17,Sl a2 l_ c2)] fun a hS=>(op1 (call hS kr kr hb56 kr (fun _ _=>rfl) (zT _ _ l_ a2 c2 h2) ?_))
 intro v105 a o9 qf hE hp hS
 have ⟨hO,h1,h2⟩:=e3e hE hO.m2 h1.m1 h2.m1
 generalize hr:bp l_=bu at hp
 replace hm:=hm bu hr
 subst hp
 refine ePe T hS [17,18] [(9,I bu.2)] fun a hS=>(a8 ?_)
 refine aH (rPe T hS [7,9] [(21,B ((al.2 != 0) || (bu.2 != 0)))] (sp:=[24]) fun a hS=>?_)
 refine aC hS (b:=((al.2 != 0) || (bu.2 != 0))) kr (fun hb=>?_) fun hb=>?_
 ·replace hm:=hm.1 hb
  refine rM T hS ⟨[(4,Pt 5 0),(5,I 2)],[(5,(61,[I 0,I 0]))]⟩ fun Z a sx um hS hE hr=>?_
  replace hO:=hO.m2 hE
  clear hE hr
  refine aR ?_
  exact fin T hS hO (fun c=>c) rfl (r:=[.agg #[ii 0,ii 0],ii 2]) kr (fun X' hM hC=>⟨_,hm,rfl⟩)
 replace hm:=hm.2 hb
 refine rPe T hS [21] [(29,B (decide ((lN l_) > 64)))] fun a hS=>(aC hS (b:=decide ((lN l_) > 64)) kr (fun hb=>?_) fun hb=>?_)
 ·replace hm:=hm.1 hb
  refine rM T hS ⟨[(4,Pt 5 0),(5,I 3)],[(5,(61,[I 0,I 0]))]⟩ fun Z a y6 yQ hS hE hr=>?_
  replace hO:=hO.m2 hE
  clear hE hr
  refine aR ?_
  exact fin T hS hO (fun c=>c) rfl (r:=[.agg #[ii 0,ii 0],ii 3]) kr (fun X' hM hC=>⟨_,hm,rfl⟩)
 replace hm:=hm.2 hb
 refine aI (bk ?_)
 refine oP T hS 2 ⟨[(1,Sl a2 l_ c2),(4,Pt 5 0),(34,V (.agg #[ii o_.ab,ii o_.aP,ii o_.aU,.slice a1 o_.Rows.length c1])),(35,Sl a2 l_ c2)],[(5,(61,[I 0,I 0]))]⟩ fun a hS=>?_
 obtain ⟨hq,hm⟩:=hm
 refine op1 (call hS kr kr hb34 kr (fun _ _=>rfl) (wo _ _ o_ l_ a1 c1 a2 c2 hq h1 h2) ?_)
 intro v113 a HQ N4 hE hp hS
 have ⟨hO,h1,h2⟩:=e3e hE hO.m2 h1.m1 h2.m1
 generalize hr:au o_ l_=b9 at hp
 replace hm:=hm b9 hr
 subst hp
 refine eM T hS ⟨[(1,Sl a2 l_ c2),(4,Pt 5 0),(10,Pt 11 0)],[(5,(61,[I 0,I 0])),(11,(61,[I b9.Ops,I b9.ab]))]⟩ fun Z a CA AO hS hE hr=>?_
 have ⟨hO,h2⟩:=e2e hE hO.m2 h2.m1
 clear hE hr
 refine eT [11] mixed hS ?_
 intro y5 yP hS hE hD hH
 have ⟨hO,h2⟩:=e2e hE hO.m2 h2.m1
 refine tke T [0,1,2] [11] hS hH #[true,true,true,false,false,false] 3 [1,10] [(37,V (.agg #[ii b9.Ops,ii b9.ab])),(38,V (.agg #[ii b9.Ops,ii b9.ab])),(39,Sl a2 l_ c2)] fun a hS=>(only 3 kr (by rfl) (call hS kr kr hb57 kr (fun _ _=>rfl) (L5 _ _ b9 l_ a2 c2 h2) ?_))
 intro v119 a ED JR hE hp hS
 replace hO:=hO.m2 hE
 replace hD:=hD.ev hE rfl
 replace h2:=h2.m1 hE
 generalize hr:fu b9 l_=sQ at hp
 replace hm:=hm sQ hr
 subst hp
 replace hS:=hS.sle [] [(40,I sQ)]
 refine cm (br.of hS (bks:=[11]) kr hD) ?_
 intro hH
 replace hS:=hS.sl ⟨[(4,Pt 5 0),(37,V (.agg #[ii b9.Ops,ii b9.ab])),(38,V (.agg #[ii b9.Ops,ii b9.ab])),(39,Sl a2 l_ c2),(40,I sQ)],[(5,(61,[I 0,I 0])),(11,(61,[I b9.Ops,I b9.ab]))]⟩
 refine only 4 kr (by rfl) (zd T hS kr kr (sy':=⟨[(4,Pt 5 0),(37,V (.agg #[ii b9.Ops,ii b9.ab])),(38,V (.agg #[ii b9.Ops,ii b9.ab])),(39,Sl a2 l_ c2),(40,I sQ)],[(5,(61,[I b9.Ops,I b9.ab])),(5,(61,[I 0,I 0])),(11,(61,[I b9.Ops,I b9.ab]))]⟩) kr ?_)
 intro a HP D3 hS hE
 replace hO:=hO.m2 hE
 replace hD:=hD.ev hE rfl
 replace h2:=h2.m1 hE
 replace hS:=hS.sl ⟨[(4,Pt 5 0),(37,V (.agg #[ii b9.Ops,ii b9.ab])),(38,V (.agg #[ii b9.Ops,ii b9.ab])),(39,Sl a2 l_ c2),(40,I sQ)],[(5,(61,[I b9.Ops,I b9.ab])),(11,(61,[I b9.Ops,I b9.ab]))]⟩
 refine cm (br.of hS (bks:=[11]) kr hD) ?_
 intro hH
 refine tke T [5] [11] hS hH (tts 6) 0 [37,38,39,40] [(5,I sQ)] fun a hS=>(bn kr ?_)
 replace hS:=hS.sl ⟨[(4,Pt 5 0),(5,I sQ)],[(5,(61,[I b9.Ops,I b9.ab]))]⟩
 refine aR ?_
 exact fin T hS hO (fun c=>c) rfl (r:=[.agg #[ii b9.Ops,ii b9.ab],ii sQ]) kr (fun X' hM hC=>⟨_,hm,rfl⟩)
theorem C18 (wo:S34) (FV:S55) (zT:S56) (L5:S57) (v:∀ (o_:ah) (l_:List ae),jG o_ l_->VC18 o_ l_ (fun r=>r=bo o_ l_)):S18:=fun w X o_ l_ a1 c1 a2 c2 hp h1 h2=>mo1 (W18 wo FV zT L5 w X o_ l_ a1 c1 a2 c2 _ (v o_ l_ hp) h1 h2)
theorem W32 (wo:S34) (FV:S55) (zT:S56) (L5:S57) (w0) (X0) (o_:ah) (l_:List ae) (a1) (c1) (a2) (c2) (Q:Int->Prop) (hm:VC32 o_ l_ Q) (h1:RS aF w0 X0 a1 o_.Rows c1) (h2:RS ar w0 X0 a2 l_ c2) :
  rt 32 #[.agg #[ii o_.ab,ii o_.aP,ii o_.aU,.slice a1 o_.Rows.length c1],.slice a2 l_.length c2] aB w0 X0 (fun w X' v=>∃ r,Q r/\v=ii r):=by
 unfold VC32 at hm
 replace hm:=hm (h1.sm kr)
 replace hm:=hm (h2.sm kr)
 refine enter Tryz.func32 rfl (vals:=[.agg #[ii o_.ab,ii o_.aP,ii o_.aU,.slice a1 o_.Rows.length c1],.slice a2 l_.length c2]) kr ?_
 intro Z a hS hO hM
 replace h1:=h1.m0 hM
 replace h2:=h2.m0 hM
 refine rM T hS ⟨[(1,Sl a2 l_ c2),(2,Pt 3 0)],[(3,(24,(cO o_ a1 c1)))]⟩ fun Z a y5 yP hS hE hr=>?_
 have ⟨hO,h1,h2⟩:=e3e hE hO.m2 h1.m1 h2.m1
 clear hE hr
 refine bk (oPe T hS 1 [] [(10,V (.agg #[ii o_.ab,ii o_.aP,ii o_.aU,.slice a1 o_.Rows.length c1]))] fun a hS=>?_)
 obtain ⟨hq,hm⟩:=hm
 refine op1 (call hS kr kr hb55 kr (fun _ _=>rfl) (FV _ _ o_ a1 c1 hq h1) ?_)
 intro v101 a eI eN hE hp hS
 have ⟨hO,h1,h2⟩:=e3e hE hO.m2 h1.m1 h2.m1
 generalize hr:bq o_=al at hp
 replace hm:=hm al hr
 subst hp
 refine ePe T hS [10,11] [(6,I al.2)] fun a hS=>(bk ?_)
 refine oPe T hS 1 [] [(15,Sl a2 l_ c2)] fun a hS=>(op1 (call hS kr kr hb56 kr (fun _ _=>rfl) (zT _ _ l_ a2 c2 h2) ?_))
 intro v105 a o9 qf hE hp hS
 have ⟨hO,h1,h2⟩:=e3e hE hO.m2 h1.m1 h2.m1
 generalize hr:bp l_=bu at hp
 replace hm:=hm bu hr
 subst hp
 refine ePe T hS [15,16] [(8,I bu.2)] fun a hS=>(a8 ?_)
 refine aH (rPe T hS [6,8] [(19,B ((al.2 != 0) || (bu.2 != 0)))] (sp:=[22]) fun a hS=>?_)
 refine aC hS (b:=((al.2 != 0) || (bu.2 != 0))) kr (fun hb=>?_) fun hb=>?_
 ·replace hm:=hm.1 hb
  refine rP T hS ⟨[(4,I 2)],[]⟩ fun a hS=>(aR ?_)
  exact fin T hS hO (fun c=>c) rfl (r:=[ii 2]) kr (fun X' hM hC=>⟨2,hm,rfl⟩)
 replace hm:=hm.2 hb
 refine rPe T hS [19] [(26,B (decide ((lN l_) > 64)))] fun a hS=>(aC hS (b:=decide ((lN l_) > 64)) kr (fun hb=>?_) fun hb=>?_)
 ·replace hm:=hm.1 hb
  refine rP T hS ⟨[(4,I 3)],[]⟩ fun a hS=>(aR ?_)
  exact fin T hS hO (fun c=>c) rfl (r:=[ii 3]) kr (fun X' hM hC=>⟨3,hm,rfl⟩)
 replace hm:=hm.2 hb
 refine aI (bk ?_)
 refine oP T hS 2 ⟨[(1,Sl a2 l_ c2),(30,V (.agg #[ii o_.ab,ii o_.aP,ii o_.aU,.slice a1 o_.Rows.length c1])),(31,Sl a2 l_ c2)],[]⟩ fun a hS=>?_
 obtain ⟨hq,hm⟩:=hm
 refine op1 (call hS kr kr hb34 kr (fun _ _=>rfl) (wo _ _ o_ l_ a1 c1 a2 c2 hq h1 h2) ?_)
 intro v109 a EG AQ hE hp hS
 have ⟨hO,h1,h2⟩:=e3e hE hO.m2 h1.m1 h2.m1
 generalize hr:au o_ l_=aS at hp
 replace hm:=hm aS hr
 subst hp
 refine oPe T hS 1 [1,30,31] [(33,Sl a2 l_ c2)] fun a hS=>(op1 (call hS kr kr hb57 kr (fun _ _=>rfl) (L5 _ _ aS l_ a2 c2 h2) ?_))
 intro v113 a HQ N4 hE hp hS
 have ⟨hO,h2⟩:=e2e hE hO.m2 h2.m1
 generalize hr:fu aS l_=b9 at hp
 replace hm:=hm b9 hr
 subst hp
 refine ePe T hS [32,33,34] [(4,I b9)] fun a hS=>(aR ?_)
 exact fin T hS hO (fun c=>c) rfl (r:=[ii b9]) kr (fun X' hM hC=>⟨_,hm,rfl⟩)
theorem C32 (wo:S34) (FV:S55) (zT:S56) (L5:S57) (v:∀ (o_:ah) (l_:List ae),jG o_ l_->VC32 o_ l_ (fun r=>r=eL o_ l_)):S32:=fun w X o_ l_ a1 c1 a2 c2 hp h1 h2=>mo1 (W32 wo FV zT L5 w X o_ l_ a1 c1 a2 c2 _ (v o_ l_ hp) h1 h2)
theorem W39 (oG:S65) (w0) (X0) (s_:aa) (i_:Int) (Q:Int->Prop) (hm:VC39 s_ i_ Q) :
  rt 39 #[.agg #[ii s_.Ops,ii s_.ab],ii i_] aB w0 X0 (fun w X' v=>∃ r,Q r/\v=ii r):=by
 unfold VC39 at hm
 refine enter Tryz.func39 rfl (vals:=[.agg #[ii s_.Ops,ii s_.ab],ii i_]) kr ?_
 intro Z a hS hO hM
 refine rM T hS ⟨[(1,I i_),(2,Pt 3 0)],[(3,(61,[I s_.Ops,I s_.ab]))]⟩ fun Z a qj oW hS hE hr=>?_
 replace hO:=hO.m2 hE
 clear hE hr
 refine bk (oP T hS 3 ⟨[(5,V (.agg #[ii s_.Ops,ii s_.ab])),(7,V (.agg #[ii 2,ii i_,ii 0]))],[]⟩ fun a hS=>?_)
 refine op1 (call hS kr kr hb65 kr (fun _ _=>rfl) (oG _ _ s_ (⟨2,i_,0⟩:aW)) ?_)
 intro v101 a eI eN hE hp hS
 replace hO:=hO.m2 hE
 generalize hr:bd s_ (⟨2,i_,0⟩:aW)=al at hp
 replace hm:=hm al hr
 subst hp
 refine ePe T hS [5,7,8] [(4,I al)] fun a hS=>(aR ?_)
 exact fin T hS hO (fun c=>c) rfl (r:=[ii al]) kr (fun X' hM hC=>⟨_,hm,rfl⟩)
theorem C39 (oG:S65) (v:∀ (s_:aa) (i_:Int),VC39 s_ i_ (fun r=>r=kg s_ i_)):S39:=fun w X s_ i_=>mo1 (W39 oG w X s_ i_ _ (v s_ i_))
theorem W61 (w0) (X0) (k_:Int) (aj:Int) (b1) (i1) (Q:aW->Prop) (hm:VC61 k_ aj Q) (eO:Cell w0 X0 b1 i1 3 [ii aj]) (hA:dL [i1]) :
  rt 61 #[ii k_,.pointer (some ⟨b1,0,none⟩)] (pR [i1]) w0 X0 (fun w X' v=>∃ r,Q r/\v=.agg #[ii r.Kind,ii r.A,ii r.B]/\Cell w X' b1 i1 3 [ii aj]):=by
 unfold VC61 at hm
 refine fO Tryz.func61 rfl (eH [(i1,901)]) (zi1 b1) (args:=[I k_,Pt 901 0]) (bxs:=[(901,(3,[I aj]))]) kr rfl (aY.cons kr (eO.map (cr 0 hA.1 rfl)) aY.nil) (fC (fun q hq=>(hA.2 q.1 (List.mem_map.2 ⟨q,hq,rfl⟩)).1)) ?_
 intro a hS hO hM
 have hP:=pn1 b1
 generalize (zi1 b1)=Z at hS hP
 clear eO
 refine rM T hS ⟨[(0,I k_),(1,Pt 901 0),(3,Pt 4 0)],[(4,(137,[I 0,I 0,I 0])),(901,(3,[I aj]))]⟩ fun Z a Ly N5 hS hE hr=>?_
 replace hO:=hO.m2 hE
 replace hP:=hP.mv hr kr
 clear hE hr
 refine rM T hS ⟨[(3,Pt 4 0)],[(4,(137,[I 1,I aj,I k_])),(901,(3,[I aj]))]⟩ fun Z a pa qg hS hE hr=>?_
 replace hO:=hO.m2 hE
 replace hP:=hP.mv hr kr
 clear hE hr
 refine aR ?_
 exact jP T hS hO (fun c h=>cw kr h) (fun c h=>cz (l:=[(i1,901)]) h) (dC [(i1,901)]) rfl (r:=[.agg #[ii 1,ii aj,ii k_]]) kr (fun X' hM hC=>⟨_,hm,rfl,((hS.cell (id:=901) (t:=3) (cs:=[I aj]) kr).out (f:=(dC [(i1,901)])) hC kr kr (hP.at 0 rfl))⟩)
theorem C61 (v:∀ (k_:Int) (aj:Int),VC61 k_ aj (fun r=>r=dQ k_ aj)):S61:=fun w X k_ aj b1 i1 eO hA=>mo1 (W61 w X k_ aj b1 i1 _ (v k_ aj) eO hA)
theorem W60_61 (TE:S61) (oG:S65) (w0) (X0) (s_:aa) (aj:Int) (b1) (i1) (Q:(List Int)->Prop) (hm:VC60_61 s_ aj Q) (eO:Cell w0 X0 b1 i1 3 [ii aj]) (hA:dL [i1]) :
  rt 60 #[.agg #[ii s_.Ops,ii s_.ab],.func (.func 61) #[] #[.pointer (some ⟨b1,0,none⟩)]] (pR [i1]) w0 X0 (fun w X' v=>∃ r,Q r/\∃ dg de,v=.slice dg r.length de/\RS tI w X' dg r de/\Cell w X' b1 i1 3 [ii aj]):=by
 unfold VC60_61 at hm
 refine fO Tryz.func60 rfl (eH [(i1,901)]) (zi1 b1) (args:=[V (.agg #[ii s_.Ops,ii s_.ab]),.f (.func 61) [] [.p 901 0]]) (bxs:=[(901,(3,[I aj]))]) kr rfl (aY.cons kr (eO.map (cr 0 hA.1 rfl)) aY.nil) (fC (fun q hq=>(hA.2 q.1 (List.mem_map.2 ⟨q,hq,rfl⟩)).1)) ?_
 intro a hS hO hM
 have hP:=pn1 b1
 generalize (zi1 b1)=Z at hS hP
 clear eO
 refine rM T hS ⟨[(1,.f (.func 61) [] [.p 901 0]),(2,Pt 3 0)],[(3,(61,[I s_.Ops,I s_.ab])),(901,(3,[I aj]))]⟩ fun Z a OI VP hS hE hr=>?_
 replace hO:=hO.m2 hE
 replace hP:=hP.mv hr kr
 clear hE hr
 refine bk (oP T hS 2 ⟨[(1,.f (.func 61) [] [.p 901 0]),(2,Pt 3 0),(8,I s_.Ops)],[(3,(61,[I s_.Ops,I s_.ab])),(901,(3,[I aj]))]⟩ fun a hS=>?_)
 obtain ⟨hq,hm⟩:=hm
 refine op1 (make (E:=3) (kl:=.i64) (kc:=.i64) (col:=1005) (T:=tI) T 0 hS kr kr kr kr kr kr hq.1 hq.2.1 (by have:=hq.2.2; have e_:((tI.bytes:Nat):Int)=8:=rfl; rw [e_]; omega) (by have:=hq.2.2; omega) (fun _ _=>rfl) ?_)
 intro b101 a eI eN hE h104 hN hS
 clear hq hN
 replace hO:=hO.m2 hE
 replace hS:=hS.conv (t:=9) (y:=.slice (some ⟨b101,0,none⟩) (List.replicate s_.Ops.toNat (0:Int)).length s_.Ops.toNat) kr (by rw [List.length_replicate])
 refine eP T hS ⟨[(1,.f (.func 61) [] [.p 901 0]),(2,Pt 3 0),(5,V (.slice (some ⟨b101,0,none⟩) (List.replicate s_.Ops.toNat (0:Int)).length s_.Ops.toNat))],[(3,(61,[I s_.Ops,I s_.ab])),(901,(3,[I aj]))]⟩ fun a hS=>(cg (fun a w=>∃ Z X,∃ (cN:List Int) (dV:Option Addr) (dU:Nat),VC60_61_J1 Q cN/\St Tryz.f60.ntmps ⟨[(5,Sl dV cN dU)],[(901,(3,[I aj]))]⟩ Z a w X/\iR (eH [(i1,901)]) w0 X0 w X/\Pin [(901,b1)] Z/\OS tI 3 w X 1005 dV cN dU) ?_ ?_)
 ·refine rP T hS ⟨[(1,.f (.func 61) [] [.p 901 0]),(2,Pt 3 0),(5,V (.slice (some ⟨b101,0,none⟩) (List.replicate s_.Ops.toNat (0:Int)).length s_.Ops.toNat)),(11,I (lN (List.replicate s_.Ops.toNat (0:Int)))),(12,I 0)],[(3,(61,[I s_.Ops,I s_.ab])),(901,(3,[I aj]))]⟩ fun a hS=>(aH ?_)
  obtain ⟨I1,μ1,cC,hm⟩:=hm
  refine cu (σ:=(List Int) × Int) (fun s a w=>∃ Z X du dq,I1 s.1 s.2/\St Tryz.f60.ntmps ⟨[(1,.f (.func 61) [] [.p 901 0]),(2,Pt 3 0),(5,Sl du s.1 dq),(11,I (lN (List.replicate s_.Ops.toNat (0:Int)))),(12,I s.2)],[(3,(61,[I s_.Ops,I s_.ab])),(901,(3,[I aj]))]⟩ Z a w X/\iR (eH [(i1,901)]) w0 X0 w X/\Pin [(901,b1)] Z/\OS tI 3 w X 1005 du s.1 dq) (fun s=>μ1 s.1 s.2) (⟨List.replicate s_.Ops.toNat (0:Int),0⟩) ?_ ?_
  ·exact ⟨Z,_,(some ⟨b101,0,none⟩),s_.Ops.toNat,cC,hS.sl _,hO,hP,h104⟩
  rintro ⟨bO,ba⟩ a HO ⟨Z,JO,du,dq,hI,hS,hO,hP,h114⟩
  replace hm:=hm bO ba hI
  clear hI cC
  refine rP T hS ⟨[(1,.f (.func 61) [] [.p 901 0]),(2,Pt 3 0),(5,Sl du bO dq),(11,I (lN (List.replicate s_.Ops.toNat (0:Int)))),(12,I ba),(13,B (decide (ba < (lN (List.replicate s_.Ops.toNat (0:Int))))))],[(3,(61,[I s_.Ops,I s_.ab])),(901,(3,[I aj]))]⟩ fun a hS=>(a8 ?_)
  refine aC hS (b:=decide (ba < (lN (List.replicate s_.Ops.toNat (0:Int))))) kr (fun hb=>?_) fun hb=>?_
  ·replace hm:=hm.1 hb
   refine aI (a8 ?_)
   refine aH (rP T hS ⟨[(1,.f (.func 61) [] [.p 901 0]),(2,Pt 3 0),(5,Sl du bO dq),(6,I ba),(11,I (lN (List.replicate s_.Ops.toNat (0:Int)))),(12,I ba)],[(3,(61,[I s_.Ops,I s_.ab])),(901,(3,[I aj]))]⟩ fun a hS=>?_)
   refine je [3,901] mixed hS ?_
   intro EE Hk hS hE hD hH
   have ⟨hO,h114⟩:=e2e hE hO.m2 h114.m2
   refine tk T [0,1,2,3,4] [3,901] hS hH #[true,true,true,true,true,false,false,false,false] 4 ⟨[(1,.f (.func 61) [] [.p 901 0]),(2,Pt 3 0),(5,Sl du bO dq),(11,I (lN (List.replicate s_.Ops.toNat (0:Int)))),(12,I ba),(15,Sl du bO dq),(16,I ba),(17,V (.agg #[ii s_.Ops,ii s_.ab])),(18,.f (.func 61) [] [.p 901 0]),(19,I ba)],[(3,(61,[I s_.Ops,I s_.ab])),(901,(3,[I aj]))]⟩ fun a hS=>(only 5 kr (by rfl) (gJ (fi:=[]) (cp:=[.p 901 0]) hS kr kr hb61 kr kr (TE _ _ ba aj (Z 901) 901 (hS.cell (id:=901) (t:=3) (cs:=[I aj]) kr) ⟨by decide,by decide⟩) ?_))
   intro v118 a CC D4 hE hp hS
   replace hO:=hO.m2 hE
   replace hD:=hD.ev hE rfl
   replace h114:=h114.m2 hE
   obtain ⟨hp,x8⟩:=hp
   generalize hr:dQ ba aj=ib at hp
   replace hm:=hm ib hr
   subst hp
   replace hS:=hS.cZ (id:=901) (t:=3) (cs:=[I aj]) kr x8
   clear x8
   replace hS:=hS.sl ⟨[(1,.f (.func 61) [] [.p 901 0]),(2,Pt 3 0),(5,Sl du bO dq),(11,I (lN (List.replicate s_.Ops.toNat (0:Int)))),(12,I ba),(15,Sl du bO dq),(16,I ba),(17,V (.agg #[ii s_.Ops,ii s_.ab])),(18,.f (.func 61) [] [.p 901 0]),(19,I ba),(20,V (.agg #[ii ib.Kind,ii ib.A,ii ib.B]))],[(3,(61,[I s_.Ops,I s_.ab])),(901,(3,[I aj]))]⟩
   refine cm (br.of hS (bks:=[3,901]) kr hD) ?_
   intro hH
   refine only 6 kr (by rfl) (call hS kr kr hb65 kr (fun _ _=>rfl) (oG _ _ s_ ib) ?_)
   intro v123 a CB D2 hE hp hS
   replace hO:=hO.m2 hE
   replace hD:=hD.ev hE rfl
   replace h114:=h114.m2 hE
   generalize hr:bd s_ ib=gm at hp
   replace hm:=hm gm hr
   subst hp
   replace hS:=hS.sl ⟨[(1,.f (.func 61) [] [.p 901 0]),(2,Pt 3 0),(5,Sl du bO dq),(11,I (lN (List.replicate s_.Ops.toNat (0:Int)))),(12,I ba),(15,Sl du bO dq),(16,I ba),(17,V (.agg #[ii s_.Ops,ii s_.ab])),(18,.f (.func 61) [] [.p 901 0]),(19,I ba),(20,V (.agg #[ii ib.Kind,ii ib.A,ii ib.B])),(21,I gm)],[(3,(61,[I s_.Ops,I s_.ab])),(901,(3,[I aj]))]⟩
   refine cm (br.of hS (bks:=[3,901]) kr hD) ?_
   intro hH
   obtain ⟨jI,hm⟩:=hm
   refine only 7 kr (by rfl) (iC (E:=3) (k:=.i64) T hS kr kr kr kr h114 kr kr jI.1 jI.2 ?_)
   intro RK a h129 h128 hS
   refine cm (br.of hS (bks:=[3,901]) kr hD) ?_
   intro hH
   refine only 8 kr (by rfl) (mR (x:=gm) (v:=I gm) (i:=ba.toNat) (E:=3) (xs:=bO) T hS kr kr kr kr h114 h129 (by have:=jI.1; have:=jI.2; omega) kr (fun _ _ _=>rfl) ?_)
   intro a yZ hE h132 hS
   clear h114 h129 h128 jI
   replace hO:=hO.m2 hE
   replace hD:=hD.ev hE rfl
   replace hS:=hS.conv (t:=5) (y:=.slice du (bO.set ba.toNat gm).length dq) kr (by rw [List.length_set])
   replace hS:=hS.conv (t:=15) (y:=.slice du (bO.set ba.toNat gm).length dq) kr (by rw [List.length_set])
   refine cm (br.of hS (bks:=[3,901]) kr hD) ?_
   intro hH
   refine bn kr ?_
   replace hS:=hS.sl ⟨[(1,.f (.func 61) [] [.p 901 0]),(2,Pt 3 0),(5,Sl du (bO.set ba.toNat gm) dq),(11,I (lN (List.replicate s_.Ops.toNat (0:Int)))),(12,I ba)],[(3,(61,[I s_.Ops,I s_.ab])),(901,(3,[I aj]))]⟩
   refine region (eP T hS ⟨[(1,.f (.func 61) [] [.p 901 0]),(2,Pt 3 0),(5,Sl du (bO.set ba.toNat gm) dq),(11,I (lN (List.replicate s_.Ops.toNat (0:Int)))),(12,I (wR (ba+1)))],[(3,(61,[I s_.Ops,I s_.ab])),(901,(3,[I aj]))]⟩ fun a hS=>?_)
   exact ⟨⟨(bO.set ba.toNat gm),wR (ba+1)⟩,⟨Z,_,du,dq,hm.1,hS.sl _,hO,hP,h132⟩,hm.2⟩
  replace hm:=hm.2 hb
  refine cl (by rfl) ?_
  exact ⟨Z,_,bO,du,dq,hm,hS.sl _,hO,hP,h114⟩
 rintro a HN ⟨Z,Hi,cN,dV,dU,hm,hS,hO,hP,h108⟩
 unfold VC60_61_J1 at hm
 refine rP T hS ⟨[(4,Sl dV cN dU)],[(901,(3,[I aj]))]⟩ fun a hS=>(aR ?_)
 obtain ⟨tN,hE,hF⟩:=h108.freeze (by decide)
 replace hS:=hS.ev hE (cq kr)
 replace hO:=hO.m2 hE
 have h110:=hF; clear hE hF
 exact jP T hS hO (fun c h=>cw kr h) (fun c h=>cz (l:=[(i1,901)]) h) (dC [(i1,901)]) rfl (r:=[.slice dV cN.length dU]) kr (fun X' hM hC=>⟨cN,hm,dV,dU,rfl,h110.m0 hM,((hS.cell (id:=901) (t:=3) (cs:=[I aj]) kr).out (f:=(dC [(i1,901)])) hC kr kr (hP.at 0 rfl))⟩)
theorem C60_61 (TE:S61) (oG:S65) (v:∀ (s_:aa) (aj:Int),kP s_ aj->VC60_61 s_ aj (fun r=>r=bR s_ aj)):S60_61:=fun w X s_ aj b1 i1 hp eO hA=>mo1 (W60_61 TE oG w X s_ aj b1 i1 _ (v s_ aj hp) eO hA)
theorem W63 (w0) (X0) (a_:Int) (aj:Int) (b1) (i1) (Q:aW->Prop) (hm:VC63 a_ aj Q) (eO:Cell w0 X0 b1 i1 3 [ii aj]) (hA:dL [i1]) :
  rt 63 #[ii a_,.pointer (some ⟨b1,0,none⟩)] (pR [i1]) w0 X0 (fun w X' v=>∃ r,Q r/\v=.agg #[ii r.Kind,ii r.A,ii r.B]/\Cell w X' b1 i1 3 [ii aj]):=by
 unfold VC63 at hm
 refine fO Tryz.func63 rfl (eH [(i1,901)]) (zi1 b1) (args:=[I a_,Pt 901 0]) (bxs:=[(901,(3,[I aj]))]) kr rfl (aY.cons kr (eO.map (cr 0 hA.1 rfl)) aY.nil) (fC (fun q hq=>(hA.2 q.1 (List.mem_map.2 ⟨q,hq,rfl⟩)).1)) ?_
 intro a hS hO hM
 have hP:=pn1 b1
 generalize (zi1 b1)=Z at hS hP
 clear eO
 refine rM T hS ⟨[(0,I a_),(1,Pt 901 0),(3,Pt 4 0)],[(4,(137,[I 0,I 0,I 0])),(901,(3,[I aj]))]⟩ fun Z a Ly N5 hS hE hr=>?_
 replace hO:=hO.m2 hE
 replace hP:=hP.mv hr kr
 clear hE hr
 refine rM T hS ⟨[(3,Pt 4 0)],[(4,(137,[I 1,I a_,I aj])),(901,(3,[I aj]))]⟩ fun Z a pa qg hS hE hr=>?_
 replace hO:=hO.m2 hE
 replace hP:=hP.mv hr kr
 clear hE hr
 refine aR ?_
 exact jP T hS hO (fun c h=>cw kr h) (fun c h=>cz (l:=[(i1,901)]) h) (dC [(i1,901)]) rfl (r:=[.agg #[ii 1,ii a_,ii aj]]) kr (fun X' hM hC=>⟨_,hm,rfl,((hS.cell (id:=901) (t:=3) (cs:=[I aj]) kr).out (f:=(dC [(i1,901)])) hC kr kr (hP.at 0 rfl))⟩)
theorem C63 (v:∀ (a_:Int) (aj:Int),VC63 a_ aj (fun r=>r=dP a_ aj)):S63:=fun w X a_ aj b1 i1 eO hA=>mo1 (W63 w X a_ aj b1 i1 _ (v a_ aj) eO hA)
theorem W60_63 (TC:S63) (oG:S65) (w0) (X0) (s_:aa) (aj:Int) (b1) (i1) (Q:(List Int)->Prop) (hm:VC60_63 s_ aj Q) (eO:Cell w0 X0 b1 i1 3 [ii aj]) (hA:dL [i1]) :
  rt 60 #[.agg #[ii s_.Ops,ii s_.ab],.func (.func 63) #[] #[.pointer (some ⟨b1,0,none⟩)]] (pR [i1]) w0 X0 (fun w X' v=>∃ r,Q r/\∃ dg de,v=.slice dg r.length de/\RS tI w X' dg r de/\Cell w X' b1 i1 3 [ii aj]):=by
 unfold VC60_63 at hm
 refine fO Tryz.func60 rfl (eH [(i1,901)]) (zi1 b1) (args:=[V (.agg #[ii s_.Ops,ii s_.ab]),.f (.func 63) [] [.p 901 0]]) (bxs:=[(901,(3,[I aj]))]) kr rfl (aY.cons kr (eO.map (cr 0 hA.1 rfl)) aY.nil) (fC (fun q hq=>(hA.2 q.1 (List.mem_map.2 ⟨q,hq,rfl⟩)).1)) ?_
 intro a hS hO hM
 have hP:=pn1 b1
 generalize (zi1 b1)=Z at hS hP
 clear eO
 refine rM T hS ⟨[(1,.f (.func 63) [] [.p 901 0]),(2,Pt 3 0)],[(3,(61,[I s_.Ops,I s_.ab])),(901,(3,[I aj]))]⟩ fun Z a OI VP hS hE hr=>?_
 replace hO:=hO.m2 hE
 replace hP:=hP.mv hr kr
 clear hE hr
 refine bk (oP T hS 2 ⟨[(1,.f (.func 63) [] [.p 901 0]),(2,Pt 3 0),(8,I s_.Ops)],[(3,(61,[I s_.Ops,I s_.ab])),(901,(3,[I aj]))]⟩ fun a hS=>?_)
 obtain ⟨hq,hm⟩:=hm
 refine op1 (make (E:=3) (kl:=.i64) (kc:=.i64) (col:=1005) (T:=tI) T 0 hS kr kr kr kr kr kr hq.1 hq.2.1 (by have:=hq.2.2; have e_:((tI.bytes:Nat):Int)=8:=rfl; rw [e_]; omega) (by have:=hq.2.2; omega) (fun _ _=>rfl) ?_)
 intro b101 a eI eN hE h104 hN hS
 clear hq hN
 replace hO:=hO.m2 hE
 replace hS:=hS.conv (t:=9) (y:=.slice (some ⟨b101,0,none⟩) (List.replicate s_.Ops.toNat (0:Int)).length s_.Ops.toNat) kr (by rw [List.length_replicate])
 refine eP T hS ⟨[(1,.f (.func 63) [] [.p 901 0]),(2,Pt 3 0),(5,V (.slice (some ⟨b101,0,none⟩) (List.replicate s_.Ops.toNat (0:Int)).length s_.Ops.toNat))],[(3,(61,[I s_.Ops,I s_.ab])),(901,(3,[I aj]))]⟩ fun a hS=>(cg (fun a w=>∃ Z X,∃ (cN:List Int) (dV:Option Addr) (dU:Nat),VC60_63_J1 Q cN/\St Tryz.f60.ntmps ⟨[(5,Sl dV cN dU)],[(901,(3,[I aj]))]⟩ Z a w X/\iR (eH [(i1,901)]) w0 X0 w X/\Pin [(901,b1)] Z/\OS tI 3 w X 1005 dV cN dU) ?_ ?_)
 ·refine rP T hS ⟨[(1,.f (.func 63) [] [.p 901 0]),(2,Pt 3 0),(5,V (.slice (some ⟨b101,0,none⟩) (List.replicate s_.Ops.toNat (0:Int)).length s_.Ops.toNat)),(11,I (lN (List.replicate s_.Ops.toNat (0:Int)))),(12,I 0)],[(3,(61,[I s_.Ops,I s_.ab])),(901,(3,[I aj]))]⟩ fun a hS=>(aH ?_)
  obtain ⟨I1,μ1,cC,hm⟩:=hm
  refine cu (σ:=(List Int) × Int) (fun s a w=>∃ Z X du dq,I1 s.1 s.2/\St Tryz.f60.ntmps ⟨[(1,.f (.func 63) [] [.p 901 0]),(2,Pt 3 0),(5,Sl du s.1 dq),(11,I (lN (List.replicate s_.Ops.toNat (0:Int)))),(12,I s.2)],[(3,(61,[I s_.Ops,I s_.ab])),(901,(3,[I aj]))]⟩ Z a w X/\iR (eH [(i1,901)]) w0 X0 w X/\Pin [(901,b1)] Z/\OS tI 3 w X 1005 du s.1 dq) (fun s=>μ1 s.1 s.2) (⟨List.replicate s_.Ops.toNat (0:Int),0⟩) ?_ ?_
  ·exact ⟨Z,_,(some ⟨b101,0,none⟩),s_.Ops.toNat,cC,hS.sl _,hO,hP,h104⟩
  rintro ⟨bO,ba⟩ a HO ⟨Z,JO,du,dq,hI,hS,hO,hP,h114⟩
  replace hm:=hm bO ba hI
  clear hI cC
  refine rP T hS ⟨[(1,.f (.func 63) [] [.p 901 0]),(2,Pt 3 0),(5,Sl du bO dq),(11,I (lN (List.replicate s_.Ops.toNat (0:Int)))),(12,I ba),(13,B (decide (ba < (lN (List.replicate s_.Ops.toNat (0:Int))))))],[(3,(61,[I s_.Ops,I s_.ab])),(901,(3,[I aj]))]⟩ fun a hS=>(a8 ?_)
  refine aC hS (b:=decide (ba < (lN (List.replicate s_.Ops.toNat (0:Int))))) kr (fun hb=>?_) fun hb=>?_
  ·replace hm:=hm.1 hb
   refine aI (a8 ?_)
   refine aH (rP T hS ⟨[(1,.f (.func 63) [] [.p 901 0]),(2,Pt 3 0),(5,Sl du bO dq),(6,I ba),(11,I (lN (List.replicate s_.Ops.toNat (0:Int)))),(12,I ba)],[(3,(61,[I s_.Ops,I s_.ab])),(901,(3,[I aj]))]⟩ fun a hS=>?_)
   refine je [3,901] mixed hS ?_
   intro EE Hk hS hE hD hH
   have ⟨hO,h114⟩:=e2e hE hO.m2 h114.m2
   refine tk T [0,1,2,3,4] [3,901] hS hH #[true,true,true,true,true,false,false,false,false] 4 ⟨[(1,.f (.func 63) [] [.p 901 0]),(2,Pt 3 0),(5,Sl du bO dq),(11,I (lN (List.replicate s_.Ops.toNat (0:Int)))),(12,I ba),(15,Sl du bO dq),(16,I ba),(17,V (.agg #[ii s_.Ops,ii s_.ab])),(18,.f (.func 63) [] [.p 901 0]),(19,I ba)],[(3,(61,[I s_.Ops,I s_.ab])),(901,(3,[I aj]))]⟩ fun a hS=>(only 5 kr (by rfl) (gJ (fi:=[]) (cp:=[.p 901 0]) hS kr kr hb63 kr kr (TC _ _ ba aj (Z 901) 901 (hS.cell (id:=901) (t:=3) (cs:=[I aj]) kr) ⟨by decide,by decide⟩) ?_))
   intro v118 a CC D4 hE hp hS
   replace hO:=hO.m2 hE
   replace hD:=hD.ev hE rfl
   replace h114:=h114.m2 hE
   obtain ⟨hp,x8⟩:=hp
   generalize hr:dP ba aj=ib at hp
   replace hm:=hm ib hr
   subst hp
   replace hS:=hS.cZ (id:=901) (t:=3) (cs:=[I aj]) kr x8
   clear x8
   replace hS:=hS.sl ⟨[(1,.f (.func 63) [] [.p 901 0]),(2,Pt 3 0),(5,Sl du bO dq),(11,I (lN (List.replicate s_.Ops.toNat (0:Int)))),(12,I ba),(15,Sl du bO dq),(16,I ba),(17,V (.agg #[ii s_.Ops,ii s_.ab])),(18,.f (.func 63) [] [.p 901 0]),(19,I ba),(20,V (.agg #[ii ib.Kind,ii ib.A,ii ib.B]))],[(3,(61,[I s_.Ops,I s_.ab])),(901,(3,[I aj]))]⟩
   refine cm (br.of hS (bks:=[3,901]) kr hD) ?_
   intro hH
   refine only 6 kr (by rfl) (call hS kr kr hb65 kr (fun _ _=>rfl) (oG _ _ s_ ib) ?_)
   intro v123 a CB D2 hE hp hS
   replace hO:=hO.m2 hE
   replace hD:=hD.ev hE rfl
   replace h114:=h114.m2 hE
   generalize hr:bd s_ ib=gm at hp
   replace hm:=hm gm hr
   subst hp
   replace hS:=hS.sl ⟨[(1,.f (.func 63) [] [.p 901 0]),(2,Pt 3 0),(5,Sl du bO dq),(11,I (lN (List.replicate s_.Ops.toNat (0:Int)))),(12,I ba),(15,Sl du bO dq),(16,I ba),(17,V (.agg #[ii s_.Ops,ii s_.ab])),(18,.f (.func 63) [] [.p 901 0]),(19,I ba),(20,V (.agg #[ii ib.Kind,ii ib.A,ii ib.B])),(21,I gm)],[(3,(61,[I s_.Ops,I s_.ab])),(901,(3,[I aj]))]⟩
   refine cm (br.of hS (bks:=[3,901]) kr hD) ?_
   intro hH
   obtain ⟨jI,hm⟩:=hm
   refine only 7 kr (by rfl) (iC (E:=3) (k:=.i64) T hS kr kr kr kr h114 kr kr jI.1 jI.2 ?_)
   intro RK a h129 h128 hS
   refine cm (br.of hS (bks:=[3,901]) kr hD) ?_
   intro hH
   refine only 8 kr (by rfl) (mR (x:=gm) (v:=I gm) (i:=ba.toNat) (E:=3) (xs:=bO) T hS kr kr kr kr h114 h129 (by have:=jI.1; have:=jI.2; omega) kr (fun _ _ _=>rfl) ?_)
   intro a yZ hE h132 hS
   clear h114 h129 h128 jI
   replace hO:=hO.m2 hE
   replace hD:=hD.ev hE rfl
   replace hS:=hS.conv (t:=5) (y:=.slice du (bO.set ba.toNat gm).length dq) kr (by rw [List.length_set])
   replace hS:=hS.conv (t:=15) (y:=.slice du (bO.set ba.toNat gm).length dq) kr (by rw [List.length_set])
   refine cm (br.of hS (bks:=[3,901]) kr hD) ?_
   intro hH
   refine bn kr ?_
   replace hS:=hS.sl ⟨[(1,.f (.func 63) [] [.p 901 0]),(2,Pt 3 0),(5,Sl du (bO.set ba.toNat gm) dq),(11,I (lN (List.replicate s_.Ops.toNat (0:Int)))),(12,I ba)],[(3,(61,[I s_.Ops,I s_.ab])),(901,(3,[I aj]))]⟩
   refine region (eP T hS ⟨[(1,.f (.func 63) [] [.p 901 0]),(2,Pt 3 0),(5,Sl du (bO.set ba.toNat gm) dq),(11,I (lN (List.replicate s_.Ops.toNat (0:Int)))),(12,I (wR (ba+1)))],[(3,(61,[I s_.Ops,I s_.ab])),(901,(3,[I aj]))]⟩ fun a hS=>?_)
   exact ⟨⟨(bO.set ba.toNat gm),wR (ba+1)⟩,⟨Z,_,du,dq,hm.1,hS.sl _,hO,hP,h132⟩,hm.2⟩
  replace hm:=hm.2 hb
  refine cl (by rfl) ?_
  exact ⟨Z,_,bO,du,dq,hm,hS.sl _,hO,hP,h114⟩
 rintro a HN ⟨Z,Hi,cN,dV,dU,hm,hS,hO,hP,h108⟩
 unfold VC60_63_J1 at hm
 refine rP T hS ⟨[(4,Sl dV cN dU)],[(901,(3,[I aj]))]⟩ fun a hS=>(aR ?_)
 obtain ⟨tN,hE,hF⟩:=h108.freeze (by decide)
 replace hS:=hS.ev hE (cq kr)
 replace hO:=hO.m2 hE
 have h110:=hF; clear hE hF
 exact jP T hS hO (fun c h=>cw kr h) (fun c h=>cz (l:=[(i1,901)]) h) (dC [(i1,901)]) rfl (r:=[.slice dV cN.length dU]) kr (fun X' hM hC=>⟨cN,hm,dV,dU,rfl,h110.m0 hM,((hS.cell (id:=901) (t:=3) (cs:=[I aj]) kr).out (f:=(dC [(i1,901)])) hC kr kr (hP.at 0 rfl))⟩)
theorem C60_63 (TC:S63) (oG:S65) (v:∀ (s_:aa) (aj:Int),kP s_ aj->VC60_63 s_ aj (fun r=>r=bQ s_ aj)):S60_63:=fun w X s_ aj b1 i1 hp eO hA=>mo1 (W60_63 TC oG w X s_ aj b1 i1 _ (v s_ aj hp) eO hA)
theorem W62 (w0) (X0) (vars:List Int) (a1) (c1) (Q:(List (List Int))->Prop) (hm:VC62 vars Q) (h1:RS tI w0 X0 a1 vars c1) :
  rt 62 #[.slice a1 vars.length c1] aB w0 X0 (fun w X' v=>∃ r,Q r/\∃ dg de,v=.slice dg r.length de/\RS (aA tI) w X' dg r de):=by
 unfold VC62 at hm
 replace hm:=hm (h1.sm kr)
 refine enter Tryz.func62 rfl (vals:=[.slice a1 vars.length c1]) kr ?_
 intro Z a hS hO hM
 replace h1:=h1.m0 hM
 refine rPe T hS [] [] fun a hS=>(rPe T hS [] [(3,V (.slice none 0 0))] fun a hS=>?_)
 refine cg (fun a w=>∃ Z X,∃ (dk:List (List Int)) (jx:Option Addr) (ju:Nat),VC62_J1 Q dk/\St Tryz.f62.ntmps ⟨[(3,Sl jx dk ju)],[]⟩ Z a w X/\Old w0 X0 w X/\OS (aA tI) 79 w X 1003 jx dk ju) ?_ ?_
 ·refine rPe T hS [] [(8,Sl a1 vars c1),(9,I (lN vars)),(10,I 0)] fun a hS=>(aH ?_)
  obtain ⟨I1,μ1,cC,hm⟩:=hm
  refine cu (σ:=(List (List Int)) × Int) (fun s a w=>∃ Z X iQ iP,I1 s.1 s.2/\St Tryz.f62.ntmps ⟨[(0,Sl a1 vars c1),(3,Sl iQ s.1 iP),(8,Sl a1 vars c1),(9,I (lN vars)),(10,I s.2)],[]⟩ Z a w X/\Old w0 X0 w X/\RS tI w X a1 vars c1/\OS (aA tI) 79 w X 1003 iQ s.1 iP/\RS tI w X a1 vars c1) (fun s=>μ1 s.1 s.2) (⟨[],0⟩) ?_ ?_
  ·exact ⟨Z,_,none,0,cC,hS.sl _,hO,h1,(OS.nil _ _ _ _ _),h1⟩
  rintro ⟨fJ,bw⟩ a SQ ⟨Z,Ry,iQ,iP,hI,hS,hO,h107,h111,h112⟩
  replace hm:=hm fJ bw hI
  clear hI cC
  refine rPe T hS [] [(11,B (decide (bw < (lN vars))))] fun a hS=>(a8 ?_)
  refine aC hS (b:=decide (bw < (lN vars))) kr (fun hb=>?_) fun hb=>?_
  ·replace hm:=hm.1 hb
   refine aI (cg (fun a w=>∃ Z X,∃ (ba:List (List Int)) (dT:Option Addr) (dS:Nat),VC62_J2 I1 μ1 fJ bw ba/\St Tryz.f62.ntmps ⟨[(0,Sl a1 vars c1),(3,Sl dT ba dS),(8,Sl a1 vars c1),(9,I (lN vars)),(10,I bw)],[]⟩ Z a w X/\Old w0 X0 w X/\RS tI w X a1 vars c1/\OS (aA tI) 79 w X 1003 dT ba dS/\RS tI w X a1 vars c1) ?_ ?_)
   ·refine aH (bk ?_)
    refine oPe T hS 1 [11] [(12,I bw)] fun a hS=>?_
    obtain ⟨hq,hm⟩:=hm
    refine op1 (index (e:=3) (k:=.i64) T hS kr kr kr kr h112 kr kr hq.1 hq.2 ?_)
    intro N7 a h121 hS
    refine op1 (fc T hS kr kr kr h121 rfl kr ?_)
    intro v122 a hv hS
    cases hv
    refine ePe T hS [12,13,14] [(4,I bw),(5,I (gi vars bw))] fun a hS=>(bk ?_)
    refine oPe T hS 3 [4] [(15,Sl a1 vars c1),(17,I (wR (bw+1)))] fun a hS=>?_
    obtain ⟨hq,hm⟩:=hm
    refine op1 (LG (E:=3) (kl:=.i64) T hS kr kr kr kr h107 kr kr hq.1 hq.2 ?_)
    intro uk uh a h125 hS
    refine ePe T hS [15,17] [(19,I (((vars.drop (wR (bw+1)).toNat).length:Nat):Int)),(20,I 0)] fun a hS=>(aH ?_)
    obtain ⟨I2,μ2,cC,hm⟩:=hm
    refine cu (σ:=(List (List Int)) × Int) (fun s a w=>∃ Z X gE gC,I2 s.1 s.2/\St Tryz.f62.ntmps ⟨[(0,Sl a1 vars c1),(3,Sl gE s.1 gC),(5,I (gi vars bw)),(8,Sl a1 vars c1),(9,I (lN vars)),(10,I bw),(18,Sl uk (vars.drop (wR (bw+1)).toNat) uh),(19,I (((vars.drop (wR (bw+1)).toNat).length:Nat):Int)),(20,I s.2)],[]⟩ Z a w X/\Old w0 X0 w X/\RS tI w X a1 vars c1/\OS (aA tI) 79 w X 1003 gE s.1 gC/\RS tI w X a1 vars c1/\RS tI w X uk (vars.drop (wR (bw+1)).toNat) uh) (fun s=>μ2 s.1 s.2) (⟨fJ,0⟩) ?_ ?_
    ·exact ⟨Z,_,iQ,iP,cC,hS.sl _,hO,h107,h111,h112,h125⟩
    rintro ⟨bP,iU⟩ a SS ⟨Z,Hh,gE,gC,hI,hS,hO,h126,h130,h131,h132⟩
    replace hm:=hm bP iU hI
    clear hI cC
    refine rPe T hS [] [(21,B (decide (iU < (((vars.drop (wR (bw+1)).toNat).length:Nat):Int))))] fun a hS=>(a8 ?_)
    refine aC hS (b:=decide (iU < (((vars.drop (wR (bw+1)).toNat).length:Nat):Int))) kr (fun hb=>?_) fun hb=>?_
    ·replace hm:=hm.1 hb
     refine aI (a8 ?_)
     refine aH (bk ?_)
     obtain ⟨hq,hm⟩:=hm
     refine op1 (index (e:=3) (k:=.i64) T hS kr kr kr kr h132 kr kr hq.1 hq.2 ?_)
     intro V5 a h135 hS
     refine op1 (fc T hS kr kr kr h135 rfl kr ?_)
     intro v136 a hv hS
     cases hv
     refine ePe T hS [21,22,23] [(7,I (gi (vars.drop (wR (bw+1)).toNat) iU))] fun a hS=>(region ?_)
     refine oPe T hS 5 [7] [(24,Sl gE bP gC),(26,I (wR (0 - (gi vars bw)))),(28,I (wR (0 - (gi (vars.drop (wR (bw+1)).toNat) iU))))] fun a hS=>(op1 (lit (E:=3) (col:=0) (T:=tI) (vals:=[ii (wR (0 - (gi vars bw))),ii (wR (0 - (gi (vars.drop (wR (bw+1)).toNat) iU)))]) (ys:=[wR (0 - (gi vars bw)),wR (0 - (gi (vars.drop (wR (bw+1)).toNat) iU))]) T hS kr kr kr kr (by exact ⟨rfl,rfl,trivial⟩) rfl kr kr kr kr ?_))
     intro b137 a Cy AM hE h140 hN hS
     clear hN
     have ⟨hO,h126,h130,h131,h132⟩:=e5e hE hO.m2 h126.m1 h130.m2 h131.m1 h132.m1
     replace h140:=h140.rs0
     refine op1 (lit (E:=79) (col:=0) (T:=(aA tI)) (vals:=[.slice (some ⟨b137,0,none⟩) [wR (0 - (gi vars bw)),wR (0 - (gi (vars.drop (wR (bw+1)).toNat) iU))].length 2]) (ys:=[[wR (0 - (gi vars bw)),wR (0 - (gi (vars.drop (wR (bw+1)).toNat) iU))]]) T hS kr kr kr kr (by exact ⟨⟨(some ⟨b137,0,none⟩),2,rfl,h140⟩,trivial⟩) rfl kr kr kr kr ?_)
     intro b141 a Ls RB hE h144 hN hS
     clear hN
     have ⟨hO,h126,h130,h131,h132,h140⟩:=e6e hE hO.m2 h126.m1 h130.m2 h131.m1 h132.m1 h140.m1
     replace h144:=h144.rs0
     obtain ⟨hq,hm⟩:=hm
     obtain ⟨news,hN⟩:=h144.src
     refine op1 (append (E:=79) (T:=(aA tI)) (col:=1003) (xs:=bP) T hS kr kr kr kr h130 hN kr kr kr kr hq ?_)
     intro Rn Q8 a Lr RA hE h147 hS
     clear hq hN
     clear h130
     have ⟨hO,h126,h131,h132,h140,h144⟩:=e6e hE hO.m2 h126.m1 h131.m1 h132.m1 h140.m1 h144.m1
     refine ePe T hS [26,28,29,30,31] [(3,Sl Rn (bP++[[wR (0 - (gi vars bw)),wR (0 - (gi (vars.drop (wR (bw+1)).toNat) iU))]]) Q8)] fun a hS=>(region (ePe T hS [] [(20,I (wR (iU+1)))] fun a hS=>?_))
     exact ⟨⟨bP++[[wR (0 - (gi vars bw)),wR (0 - (gi (vars.drop (wR (bw+1)).toNat) iU))]],wR (iU+1)⟩,⟨Z,_,Rn,Q8,hm.1,hS.sl _,hO,h126,h147,h131,h132⟩,hm.2⟩
    replace hm:=hm.2 hb
    refine cl (by rfl) ?_
    exact ⟨Z,_,bP,gE,gC,hm,hS.sl _,hO,h126,h130,h131⟩
   rintro a Lq ⟨Z,NW,ba,dT,dS,hm,hS,hO,h114,h118,h119⟩
   unfold VC62_J2 at hm
   refine region (ePe T hS [] [(10,I (wR (bw+1)))] fun a hS=>?_)
   exact ⟨⟨ba,wR (bw+1)⟩,⟨Z,_,dT,dS,hm.1,hS.sl _,hO,h114,h118,h119⟩,hm.2⟩
  replace hm:=hm.2 hb
  refine cl (by rfl) ?_
  exact ⟨Z,_,fJ,iQ,iP,hm,hS.sl _,hO,h111⟩
 rintro a HL ⟨Z,NV,dk,jx,ju,hm,hS,hO,h104⟩
 unfold VC62_J1 at hm
 refine rPe T hS [3] [(2,Sl jx dk ju)] fun a hS=>(aR ?_)
 obtain ⟨wX,hE,hF⟩:=h104.freeze (by decide)
 replace hS:=hS.ev hE (cq kr)
 replace hO:=hO.m2 hE
 have h106:=hF; clear hE hF
 exact fin T hS hO (fun c=>c) rfl (r:=[.slice jx dk.length ju]) kr (fun X' hM hC=>⟨dk,hm,jx,ju,rfl,h106.m0 hM⟩)
theorem C62 (v:∀ (vars:List Int),iY vars->VC62 vars (fun r=>r=dD vars)):S62:=fun w X vars a1 c1 hp h1=>mo1 (W62 w X vars a1 c1 _ (v vars hp) h1)
theorem W20 (mi:S59) (zS:S60_61) (zR:S60_63) (Kd:S62) (w0) (X0) (s_:aa) (Q:(List (List Int))->Prop) (hm:VC20 s_ Q) :
  rt 20 #[.agg #[ii s_.Ops,ii s_.ab]] aB w0 X0 (fun w X' v=>∃ r,Q r/\∃ dg de,v=.slice dg r.length de/\RS (aA tI) w X' dg r de):=by
 unfold VC20 at hm
 refine enter Tryz.func20 rfl (vals:=[.agg #[ii s_.Ops,ii s_.ab]]) kr ?_
 intro Z a hS hO hM
 refine rM T hS ⟨[(1,Pt 2 0)],[(2,(61,[I s_.Ops,I s_.ab]))]⟩ fun Z a SL VC hS hE hr=>?_
 replace hO:=hO.m2 hE
 clear hE hr
 refine a8 (bk ?_)
 refine oPe T hS 1 [] [(8,V (.agg #[ii s_.Ops,ii s_.ab]))] fun a hS=>(op1 (call hS kr kr hb59 kr (fun _ _=>rfl) (mi _ _ s_) ?_))
 intro v101 a eI eN hE hp hS
 replace hO:=hO.m2 hE
 generalize hr:ao s_=al at hp
 replace hm:=hm al hr
 subst hp
 refine ePe T hS [8,9] [(10,B (al != 0))] fun a hS=>(aC hS (b:=(al != 0)) kr (fun hb=>?_) fun hb=>?_)
 ·replace hm:=hm.1 hb
  refine rP T hS ⟨[(2,V (.slice none 0 0))],[]⟩ fun a hS=>(aR ?_)
  exact fin T hS hO (fun c=>c) rfl (r:=[.slice none 0 0]) kr (fun X' hM hC=>⟨[],hm,none,0,rfl,RS.empty _ _ _⟩)
 replace hm:=hm.2 hb
 refine aI (rPe T hS [10] [(3,V (.slice none 0 0))] fun a hS=>?_)
 refine cg (fun a w=>∃ Z X,∃ (cN:List (List Int)) (dV:Option Addr) (dU:Nat),VC20_J1 s_ Q cN/\St Tryz.f20.ntmps ⟨[(1,Pt 2 0),(3,Sl dV cN dU)],[(2,(61,[I s_.Ops,I s_.ab]))]⟩ Z a w X/\Old w0 X0 w X/\OS (aA tI) 79 w X 1003 dV cN dU) ?_ ?_
 ·refine rPe T hS [] [(12,I s_.Ops),(13,I 0)] fun a hS=>(aH ?_)
  obtain ⟨I2,μ2,cC,hm⟩:=hm
  refine cu (σ:=(List (List Int)) × Int) (fun s a w=>∃ Z X kK kJ,I2 s.1 s.2/\St Tryz.f20.ntmps ⟨[(1,Pt 2 0),(3,Sl kK s.1 kJ),(12,I s_.Ops),(13,I s.2)],[(2,(61,[I s_.Ops,I s_.ab]))]⟩ Z a w X/\Old w0 X0 w X/\OS (aA tI) 79 w X 1003 kK s.1 kJ) (fun s=>μ2 s.1 s.2) (⟨[],0⟩) ?_ ?_
  ·exact ⟨Z,_,none,0,cC,hS.sl _,hO,(OS.nil _ _ _ _ _)⟩
  rintro ⟨jh,jC⟩ a HH ⟨Z,Rp,kK,kJ,hI,hS,hO,h149⟩
  replace hm:=hm jh jC hI
  clear hI cC
  refine rPe T hS [] [(14,B (decide (jC < s_.Ops)))] fun a hS=>(a8 ?_)
  refine aC hS (b:=decide (jC < s_.Ops)) kr (fun hb=>?_) fun hb=>?_
  ·replace hm:=hm.1 hb
   refine aI (a8 ?_)
   refine aH (rM T hS ⟨[(1,Pt 2 0),(3,Sl kK jh kJ),(4,Pt 5 0),(12,I s_.Ops),(13,I jC)],[(2,(61,[I s_.Ops,I s_.ab])),(5,(3,[I jC]))]⟩ fun Z a HI JI hS hE hr=>?_)
   have ⟨hO,h149⟩:=e2e hE hO.m2 h149.m2
   clear hE hr
   refine bk (oPe T hS 2 [4] [(16,V (.agg #[ii s_.Ops,ii s_.ab])),(17,.f (.func 61) [] [.p 5 0])] fun a hS=>?_)
   obtain ⟨hq,hm⟩:=hm
   refine op1 (pY hS kr kr hb60 kr (zS _ _ s_ jC (Z 5) 5 hq (hS.cell (id:=5) (t:=3) (cs:=[I jC]) kr) ⟨by decide,by decide⟩) ?_)
   intro v151 a SR Rz hE hp hS
   have ⟨hO,h149⟩:=e2e hE hO.m2 h149.m2
   obtain ⟨DX,DL,hp,h157,KD⟩:=hp
   obtain ⟨lG,hr⟩:∃ r,bR s_ jC=r:=⟨_,rfl⟩
   replace hm:=hm lG hr
   rw [hr] at hp h157
   clear hr
   subst hp
   replace hm:=hm (h157.sm kr)
   replace hS:=hS.cZ (id:=5) (t:=3) (cs:=[I jC]) kr KD
   clear KD
   refine eP T hS ⟨[(1,Pt 2 0),(3,Sl kK jh kJ),(5,Sl DX lG DL),(12,I s_.Ops),(13,I jC)],[(2,(61,[I s_.Ops,I s_.ab]))]⟩ fun a hS=>(region ?_)
   refine oPe T hS 2 [] [(19,Sl kK jh kJ),(20,Sl DX lG DL)] fun a hS=>(op1 (lit (E:=79) (col:=0) (T:=(aA tI)) (vals:=[.slice DX lG.length DL]) (ys:=[lG]) T hS kr kr kr kr (by exact ⟨⟨DX,DL,rfl,h157⟩,trivial⟩) rfl kr kr kr kr ?_))
   intro b159 a Cv JM hE h162 hN hS
   clear hN
   have ⟨hO,h149,h157⟩:=e3e hE hO.m2 h149.m2 h157.m1
   replace h162:=h162.rs0
   obtain ⟨hq,hm⟩:=hm
   obtain ⟨news,hN⟩:=h162.src
   refine op1 (append (E:=79) (T:=(aA tI)) (col:=1003) (xs:=jh) T hS kr kr kr kr h149 hN kr kr kr kr hq ?_)
   intro aa2 aaT a yY AL hE h165 hS
   clear hq hN
   clear h149
   have ⟨hO,h157,h162⟩:=e3e hE hO.m2 h157.m1 h162.m1
   refine oPe T hS 1 [5,20,21] [(23,Sl DX lG DL)] fun a hS=>?_
   obtain ⟨hq,hm⟩:=hm
   refine op1 (call hS kr kr hb62 kr (fun _ _=>rfl) (Kd _ _ lG DX DL hq h157) ?_)
   intro v168 a OA Ru hE hp hS
   have ⟨hO,h157,h165⟩:=e3e hE hO.m2 h157.m1 h165.m2
   obtain ⟨aa1,aaS,hp,h174⟩:=hp
   obtain ⟨vT,hr⟩:∃ r,dD lG=r:=⟨_,rfl⟩
   replace hm:=hm vT hr
   rw [hr] at hp h174
   clear hr
   subst hp
   replace hm:=hm (h174.sm kr)
   obtain ⟨hq,hm⟩:=hm
   obtain ⟨news,hN⟩:=h174.src
   refine op1 (append (E:=79) (T:=(aA tI)) (col:=1003) (xs:=jh++[lG]) T hS kr kr kr kr h165 hN kr kr kr kr hq ?_)
   intro Rj Q4 a Ox Rr hE h177 hS
   clear hq hN
   clear h165
   have ⟨hO,h157,h174⟩:=e3e hE hO.m2 h157.m1 h174.m1
   refine ePe T hS [23,24,25] [(3,Sl Rj ((jh++[lG])++vT) Q4)] fun a hS=>(region (ePe T hS [] [(13,I (wR (jC+1)))] fun a hS=>?_))
   exact ⟨⟨(jh++[lG])++vT,wR (jC+1)⟩,⟨Z,_,Rj,Q4,hm.1,hS.sl _,hO,h177⟩,hm.2⟩
  replace hm:=hm.2 hb
  refine cl (by rfl) ?_
  exact ⟨Z,_,jh,kK,kJ,hm,hS.sl _,hO,h149⟩
 rintro a HG ⟨Z,NR,cN,dV,dU,hm,hS,hO,h108⟩
 unfold VC20_J1 at hm
 refine cg (fun a w=>∃ Z X,∃ (oo:List (List Int)) (nj:Option Addr) (nh:Nat),VC20_J2 Q oo/\St Tryz.f20.ntmps ⟨[(3,Sl nj oo nh)],[]⟩ Z a w X/\Old w0 X0 w X/\OS (aA tI) 79 w X 1003 nj oo nh) ?_ ?_
 ·refine rPe T hS [] [(28,I s_.Ops),(29,I 0)] fun a hS=>(aH ?_)
  obtain ⟨I1,μ1,cC,hm⟩:=hm
  refine cu (σ:=(List (List Int)) × Int) (fun s a w=>∃ Z X dT dS,I1 s.1 s.2/\St Tryz.f20.ntmps ⟨[(1,Pt 2 0),(3,Sl dT s.1 dS),(28,I s_.Ops),(29,I s.2)],[(2,(61,[I s_.Ops,I s_.ab]))]⟩ Z a w X/\Old w0 X0 w X/\OS (aA tI) 79 w X 1003 dT s.1 dS) (fun s=>μ1 s.1 s.2) (⟨cN,0⟩) ?_ ?_
  ·exact ⟨Z,_,dV,dU,cC,hS.sl _,hO,h108⟩
  rintro ⟨ba,cn⟩ a OH ⟨Z,NY,dT,dS,hI,hS,hO,h118⟩
  replace hm:=hm ba cn hI
  clear hI cC
  refine rPe T hS [] [(30,B (decide (cn < s_.Ops)))] fun a hS=>(a8 ?_)
  refine aC hS (b:=decide (cn < s_.Ops)) kr (fun hb=>?_) fun hb=>?_
  ·replace hm:=hm.1 hb
   refine aI (a8 ?_)
   refine aH (rM T hS ⟨[(1,Pt 2 0),(3,Sl dT ba dS),(6,Pt 7 0),(28,I s_.Ops),(29,I cn)],[(2,(61,[I s_.Ops,I s_.ab])),(7,(3,[I cn]))]⟩ fun Z a SW VO hS hE hr=>?_)
   have ⟨hO,h118⟩:=e2e hE hO.m2 h118.m2
   clear hE hr
   refine bk (oPe T hS 2 [6] [(32,V (.agg #[ii s_.Ops,ii s_.ab])),(33,.f (.func 63) [] [.p 7 0])] fun a hS=>?_)
   obtain ⟨hq,hm⟩:=hm
   refine op1 (pY hS kr kr hb60 kr (zR _ _ s_ cn (Z 7) 7 hq (hS.cell (id:=7) (t:=3) (cs:=[I cn]) kr) ⟨by decide,by decide⟩) ?_)
   intro v120 a xa wV hE hp hS
   have ⟨hO,h118⟩:=e2e hE hO.m2 h118.m2
   obtain ⟨iG,iE,hp,h126,KJ⟩:=hp
   obtain ⟨bJ,hr⟩:∃ r,bQ s_ cn=r:=⟨_,rfl⟩
   replace hm:=hm bJ hr
   rw [hr] at hp h126
   clear hr
   subst hp
   replace hm:=hm (h126.sm kr)
   replace hS:=hS.cZ (id:=7) (t:=3) (cs:=[I cn]) kr KJ
   clear KJ
   refine eP T hS ⟨[(1,Pt 2 0),(3,Sl dT ba dS),(7,Sl iG bJ iE),(28,I s_.Ops),(29,I cn)],[(2,(61,[I s_.Ops,I s_.ab]))]⟩ fun a hS=>(region ?_)
   refine oPe T hS 2 [7] [(35,Sl dT ba dS),(36,Sl iG bJ iE)] fun a hS=>?_
   obtain ⟨hq,hm⟩:=hm
   refine op1 (call hS kr kr hb62 kr (fun _ _=>rfl) (Kd _ _ bJ iG iE hq h126) ?_)
   intro v128 a EC JQ hE hp hS
   have ⟨hO,h118,h126⟩:=e3e hE hO.m2 h118.m2 h126.m1
   obtain ⟨qe,p9,hp,h134⟩:=hp
   obtain ⟨eu,hr⟩:∃ r,dD bJ=r:=⟨_,rfl⟩
   replace hm:=hm eu hr
   rw [hr] at hp h134
   clear hr
   subst hp
   replace hm:=hm (h134.sm kr)
   obtain ⟨hq,hm⟩:=hm
   obtain ⟨news,hN⟩:=h134.src
   refine op1 (append (E:=79) (T:=(aA tI)) (col:=1003) (xs:=ba) T hS kr kr kr kr h118 hN kr kr kr kr hq ?_)
   intro AJ Ay a Lu NZ hE h137 hS
   clear hq hN
   clear h118
   have ⟨hO,h126,h134⟩:=e3e hE hO.m2 h126.m1 h134.m1
   refine ePe T hS [36,37,38] [(3,Sl AJ (ba++eu) Ay)] fun a hS=>(region (ePe T hS [] [(29,I (wR (cn+1)))] fun a hS=>?_))
   exact ⟨⟨ba++eu,wR (cn+1)⟩,⟨Z,_,AJ,Ay,hm.1,hS.sl _,hO,h137⟩,hm.2⟩
  replace hm:=hm.2 hb
  refine cl (by rfl) ?_
  exact ⟨Z,_,ba,dT,dS,hm,hS.sl _,hO,h118⟩
 rintro a Lr ⟨Z,VN,oo,nj,nh,hm,hS,hO,h112⟩
 unfold VC20_J2 at hm
 refine rPe T hS [3] [(2,Sl nj oo nh)] fun a hS=>(aR ?_)
 obtain ⟨AP,hE,hF⟩:=h112.freeze (by decide)
 replace hS:=hS.ev hE (cq kr)
 replace hO:=hO.m2 hE
 have h114:=hF; clear hE hF
 exact fin T hS hO (fun c=>c) rfl (r:=[.slice nj oo.length nh]) kr (fun X' hM hC=>⟨oo,hm,nj,nh,rfl,h114.m0 hM⟩)
theorem C20 (mi:S59) (zS:S60_61) (zR:S60_63) (Kd:S62) (v:∀ (s_:aa),VC20 s_ (fun r=>r=cc s_)):S20:=fun w X s_=>mo1 (W20 mi zS zR Kd w X s_ _ (v s_))
theorem W66 (w0) (X0) (p_:Int × Int) (n_:Int) (Q:Bool->Prop) (hm:VC66 p_ n_ Q) :
  rt 66 #[.agg #[ii p_.1,ii p_.2],ii n_] aB w0 X0 (fun w X' v=>∃ r,Q r/\v=.bool r):=by
 unfold VC66 at hm
 refine enter Tryz.func66 rfl (vals:=[.agg #[ii p_.1,ii p_.2],ii n_]) kr ?_
 intro Z a hS hO hM
 refine rM T hS ⟨[(1,I n_),(2,Pt 3 0)],[(3,(142,[I p_.1,I p_.2]))]⟩ fun Z a pa qg hS hE hr=>?_
 replace hO:=hO.m2 hE
 clear hE hr
 refine rP T hS ⟨[(4,B (((decide ((if p_.2 < p_.1 then p_.2 else p_.1)≥0)) && (decide ((if p_.2 > p_.1 then p_.2 else p_.1) < n_))) && (p_.1 != p_.2)))],[]⟩ (sp:=[11,20]) fun a hS=>(aR ?_)
 exact fin T hS hO (fun c=>c) rfl (r:=[.bool (((decide ((if p_.2 < p_.1 then p_.2 else p_.1)≥0)) && (decide ((if p_.2 > p_.1 then p_.2 else p_.1) < n_))) && (p_.1 != p_.2))]) kr (fun X' hM hC=>⟨_,hm,rfl⟩)
theorem C66 (v:∀ (p_:Int × Int) (n_:Int),VC66 p_ n_ (fun r=>r=dH p_ n_)):S66:=fun w X p_ n_=>mo1 (W66 w X p_ n_ _ (v p_ n_))
theorem W64 (oG:S65) (w0) (X0) (a_:Int) (b_:Int) (aj:aa) (b1) (i1) (Q:Int->Prop) (hm:VC64 a_ b_ aj Q) (eO:Cell w0 X0 b1 i1 61 [ii aj.Ops,ii aj.ab]) (hA:dL [i1]) :
  rt 64 #[ii a_,ii b_,.pointer (some ⟨b1,0,none⟩)] (pR [i1]) w0 X0 (fun w X' v=>∃ r,Q r/\v=ii r/\Cell w X' b1 i1 61 [ii aj.Ops,ii aj.ab]):=by
 unfold VC64 at hm
 refine fO Tryz.func64 rfl (eH [(i1,901)]) (zi1 b1) (args:=[I a_,I b_,Pt 901 0]) (bxs:=[(901,(61,[I aj.Ops,I aj.ab]))]) kr rfl (aY.cons kr (eO.map (cr 0 hA.1 rfl)) aY.nil) (fC (fun q hq=>(hA.2 q.1 (List.mem_map.2 ⟨q,hq,rfl⟩)).1)) ?_
 intro a hS hO hM
 have hP:=pn1 b1
 generalize (zi1 b1)=Z at hS hP
 clear eO
 refine rPe T hS [] [] fun a hS=>(bk ?_)
 refine oPe T hS 4 [0,1,2] [(6,V (.agg #[ii aj.Ops,ii aj.ab])),(9,V (.agg #[ii 1,ii a_,ii b_]))] fun a hS=>(op1 (call hS kr kr hb65 kr (fun _ _=>rfl) (oG _ _ aj (⟨1,a_,b_⟩:aW)) ?_))
 intro v101 a eI eN hE hp hS
 replace hO:=hO.m2 hE
 generalize hr:bd aj (⟨1,a_,b_⟩:aW)=al at hp
 replace hm:=hm al hr
 subst hp
 refine ePe T hS [6,9,10] [(5,I al)] fun a hS=>(aR ?_)
 exact jP T hS hO (fun c h=>cw kr h) (fun c h=>cz (l:=[(i1,901)]) h) (dC [(i1,901)]) rfl (r:=[ii al]) kr (fun X' hM hC=>⟨_,hm,rfl,((hS.cell (id:=901) (t:=61) (cs:=[I aj.Ops,I aj.ab]) kr).out (f:=(dC [(i1,901)])) hC kr kr (hP.at 0 rfl))⟩)
theorem C64 (oG:S65) (v:∀ (a_:Int) (b_:Int) (aj:aa),VC64 a_ b_ aj (fun r=>r=eA a_ b_ aj)):S64:=fun w X a_ b_ aj b1 i1 eO hA=>mo1 (W64 oG w X a_ b_ aj b1 i1 _ (v a_ b_ aj) eO hA)
end Go.Proofs.YtobeanopikjkeaaGreat
