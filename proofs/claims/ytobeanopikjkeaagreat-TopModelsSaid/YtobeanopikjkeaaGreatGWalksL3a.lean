/- Walks of the functions: each returns what its condition asks. Condition: the contracts of its callees, handed in. -/
import Derived.Test.YtobeanopikjkeaaGreatGWalksS
set_option linter.all false
namespace Go.Proofs.YtobeanopikjkeaaGreat
open Go Go.Sv
set_option maxHeartbeats 1000000
theorem W4 (w0) (X0) (o_:ah) (a1) (c1) (Q:Bool->Prop) (hm:VC4 o_ Q) (h1:RS aF w0 X0 a1 o_.Rows c1) :
  rt 4 #[.agg #[ii o_.ab,ii o_.aP,ii o_.aU,.slice a1 o_.Rows.length c1]] aB w0 X0 (fun w X' v=>∃ r,Q r/\v=.bool r):=by
 unfold VC4 at hm
 replace hm:=hm (h1.sm kr)
 refine enter Tryz.func4 rfl (vals:=[.agg #[ii o_.ab,ii o_.aP,ii o_.aU,.slice a1 o_.Rows.length c1]]) kr ?_
 intro Z a hS hO hM
 replace h1:=h1.m0 hM
 refine rM T hS ⟨[(1,Pt 2 0)],[(2,(24,(cO o_ a1 c1)))]⟩ fun Z a pa qg hS hE hr=>?_
 have ⟨hO,h1⟩:=e2e hE hO.m2 h1.m1
 clear hE hr
 refine rP T hS ⟨[(2,B (decide ((lN o_.Rows)≤300)))],[]⟩ fun a hS=>(aR ?_)
 exact fin T hS hO (fun c=>c) rfl (r:=[.bool (decide ((lN o_.Rows)≤300))]) kr (fun X' hM hC=>⟨_,hm,rfl⟩)
theorem C4 (v:∀ (o_:ah),VC4 o_ (fun r=>r=ke o_)):S4:=fun w X o_ a1 c1 h1=>mo1 (W4 w X o_ a1 c1 _ (v o_) h1)
theorem W113 (w0) (X0) (n_:Int) (top:Int) (Q:Bool->Prop) (hm:VC113 n_ top Q) :
  rt 113 #[ii n_,ii top] aB w0 X0 (fun w X' v=>∃ r,Q r/\v=.bool r):=by
 unfold VC113 at hm
 refine enter Tryz.func113 rfl (vals:=[ii n_,ii top]) kr ?_
 intro Z a hS hO hM
 refine rPe T hS [] [] fun a hS=>(rPe T hS [0,1] [(4,B ((decide (n_≥0)) && (decide (n_ < top))))] (sp:=[7]) fun a hS=>?_)
 refine aR ?_
 exact fin T hS hO (fun c=>c) rfl (r:=[.bool ((decide (n_≥0)) && (decide (n_ < top)))]) kr (fun X' hM hC=>⟨_,hm,rfl⟩)
theorem C113 (v:∀ (n_:Int) (top:Int),VC113 n_ top (fun r=>r=bH n_ top)):S113:=fun w X n_ top=>mo1 (W113 w X n_ top _ (v n_ top))
theorem W208 (w0) (X0) (vals:List Int) (a1) (c1) (Q:Int->Prop) (hm:VC208 vals Q) (h1:RS tI w0 X0 a1 vals c1) :
  rt 208 #[.slice a1 vals.length c1] aB w0 X0 (fun w X' v=>∃ r,Q r/\v=ii r):=by
 unfold VC208 at hm
 replace hm:=hm (h1.sm kr)
 refine enter Tryz.func208 rfl (vals:=[.slice a1 vals.length c1]) kr ?_
 intro Z a hS hO hM
 replace h1:=h1.m0 hM
 refine rPe T hS [] [] fun a hS=>(rPe T hS [] [(3,I 0)] fun a hS=>?_)
 refine cg (fun a w=>∃ Z X,VC208_J1 Q/\St Tryz.f208.ntmps ⟨[(3,I 0)],[]⟩ Z a w X/\Old w0 X0 w X) ?_ ?_
 ·refine rPe T hS [0] [(6,Sl a1 vals c1),(7,I (lN vals)),(8,I 0)] fun a hS=>(aH ?_)
  obtain ⟨I1,μ1,cC,hm⟩:=hm
  refine cu (σ:=Int) (fun s a w=>∃ Z X,I1 s/\St Tryz.f208.ntmps ⟨[(3,I 0),(6,Sl a1 vals c1),(7,I (lN vals)),(8,I s)],[]⟩ Z a w X/\Old w0 X0 w X/\RS tI w X a1 vals c1) (fun s=>μ1 s) (0) ?_ ?_
  ·exact ⟨Z,_,cC,hS.sl _,hO,h1⟩
  rintro bE a o8 ⟨Z,oW,hI,hS,hO,h101⟩
  replace hm:=hm bE hI
  clear hI cC
  refine rPe T hS [] [(9,B (decide (bE < (lN vals))))] fun a hS=>(a8 ?_)
  refine aC hS (b:=decide (bE < (lN vals))) kr (fun hb=>?_) fun hb=>?_
  ·replace hm:=hm.1 hb
   refine aI (a8 ?_)
   refine aH (bk ?_)
   obtain ⟨hq,hm⟩:=hm
   refine op1 (index (e:=3) (k:=.i64) T hS kr kr kr kr h101 kr kr hq.1 hq.2 ?_)
   intro Hr a h104 hS
   refine op1 (fc T hS kr kr kr h104 rfl kr ?_)
   intro v105 a hv hS
   cases hv
   refine ePe T hS [9,10,11] [(5,I (gi vals bE))] fun a hS=>(rPe T hS [] [(14,B ((gi vals bE) != 0))] fun a hS=>?_)
   refine aC hS (b:=((gi vals bE) != 0)) kr (fun hb=>?_) fun hb=>?_
   ·replace hm:=hm.1 hb
    refine rPe T hS [3,5,6,7,8,14] [(2,I (gi vals bE))] fun a hS=>(aR ?_)
    exact fin T hS hO (fun c=>c) rfl (r:=[ii (gi vals bE)]) kr (fun X' hM hC=>⟨_,hm,rfl⟩)
   replace hm:=hm.2 hb
   refine aI (region (ePe T hS [5,14] [(8,I (wR (bE+1)))] fun a hS=>?_))
   exact ⟨wR (bE+1),⟨Z,_,hm.1,hS.sl _,hO,h101⟩,hm.2⟩
  replace hm:=hm.2 hb
  refine cl (by rfl) ?_
  exact ⟨Z,_,hm,hS.sl _,hO⟩
 rintro a sx ⟨Z,oV,hm,hS,hO⟩
 unfold VC208_J1 at hm
 refine rPe T hS [3] [(2,I 0)] fun a hS=>(aR ?_)
 exact fin T hS hO (fun c=>c) rfl (r:=[ii 0]) kr (fun X' hM hC=>⟨0,hm,rfl⟩)
theorem C208 (v:∀ (vals:List Int),VC208 vals (fun r=>r=gy vals)):S208:=fun w X vals a1 c1 h1=>mo1 (W208 w X vals a1 c1 _ (v vals) h1)
theorem W268 (w0) (X0) (x_:Int) (Q:Bool->Prop) (hm:VC268 x_ Q) :
  rt 268 #[ii x_] aB w0 X0 (fun w X' v=>∃ r,Q r/\v=.bool r):=by
 unfold VC268 at hm
 refine enter Tryz.func268 rfl (vals:=[ii x_]) kr ?_
 intro Z a hS hO hM
 refine rPe T hS [] [] fun a hS=>(rPe T hS [0] [(2,B (x_ != x_))] fun a hS=>?_)
 refine aR ?_
 exact fin T hS hO (fun c=>c) rfl (r:=[.bool (x_ != x_)]) kr (fun X' hM hC=>⟨_,hm,rfl⟩)
theorem C268 (v:∀ (x_:Int),VC268 x_ (fun r=>r=cmp_isNaN_int x_)):S268:=fun w X x_=>mo1 (W268 w X x_ _ (v x_))
theorem W209 (IA:S268) (w0) (X0) (x_:Int) (y_:Int) (Q:Int->Prop) (hm:VC209 x_ y_ Q) :
  rt 209 #[ii x_,ii y_] aB w0 X0 (fun w X' v=>∃ r,Q r/\v=ii r):=by
 unfold VC209 at hm
 refine enter Tryz.func209 rfl (vals:=[ii x_,ii y_]) kr ?_
 intro Z a hS hO hM
 refine rPe T hS [] [] fun a hS=>(bk ?_)
 refine oPe T hS 1 [] [(7,I x_)] fun a hS=>(op1 (call hS kr kr hb268 kr (fun _ _=>rfl) (IA _ _ x_) ?_))
 intro v101 a eI eN hE hp hS
 replace hO:=hO.m2 hE
 generalize hr:cmp_isNaN_int x_=al at hp
 replace hm:=hm al hr
 subst hp
 refine ePe T hS [7,8] [(5,B al)] fun a hS=>(bk ?_)
 refine oPe T hS 1 [] [(9,I y_)] fun a hS=>(op1 (call hS kr kr hb268 kr (fun _ _=>rfl) (IA _ _ y_) ?_))
 intro v105 a o9 qf hE hp hS
 replace hO:=hO.m2 hE
 generalize hr:cmp_isNaN_int y_=bu at hp
 replace hm:=hm bu hr
 subst hp
 refine ePe T hS [9,10] [(6,B bu)] fun a hS=>(a8 ?_)
 refine rPe T hS [5] [(11,B al)] fun a hS=>(aC hS (b:=al) kr (fun hb=>?_) fun hb=>?_)
 ·replace hm:=hm.1 hb
  refine a8 (rPe T hS [0,1,6,11] [(12,B bu)] fun a hS=>?_)
  refine aC hS (b:=bu) kr (fun hb=>?_) fun hb=>?_
  ·replace hm:=hm.1 hb
   refine rPe T hS [12] [(4,I 0)] fun a hS=>(aR ?_)
   exact fin T hS hO (fun c=>c) rfl (r:=[ii 0]) kr (fun X' hM hC=>⟨0,hm,rfl⟩)
  replace hm:=hm.2 hb
  refine aI (rPe T hS [12] [(4,I (-1))] fun a hS=>?_)
  refine aR ?_
  exact fin T hS hO (fun c=>c) rfl (r:=[ii (-1)]) kr (fun X' hM hC=>⟨_,hm,rfl⟩)
 replace hm:=hm.2 hb
 refine aI (a8 ?_)
 refine rPe T hS [6,11] [(13,B bu)] fun a hS=>(aC hS (b:=bu) kr (fun hb=>?_) fun hb=>?_)
 ·replace hm:=hm.1 hb
  refine rPe T hS [0,1,13] [(4,I 1)] fun a hS=>(aR ?_)
  exact fin T hS hO (fun c=>c) rfl (r:=[ii 1]) kr (fun X' hM hC=>⟨1,hm,rfl⟩)
 replace hm:=hm.2 hb
 refine aI (a8 ?_)
 refine rPe T hS [13] [(16,B (decide (x_ < y_)))] fun a hS=>(aC hS (b:=decide (x_ < y_)) kr (fun hb=>?_) fun hb=>?_)
 ·replace hm:=hm.1 hb
  refine rPe T hS [0,1,16] [(4,I (-1))] fun a hS=>(aR ?_)
  exact fin T hS hO (fun c=>c) rfl (r:=[ii (-1)]) kr (fun X' hM hC=>⟨_,hm,rfl⟩)
 replace hm:=hm.2 hb
 refine aI (a8 ?_)
 refine rPe T hS [0,1,16] [(19,B (decide (x_ > y_)))] fun a hS=>(aC hS (b:=decide (x_ > y_)) kr (fun hb=>?_) fun hb=>?_)
 ·replace hm:=hm.1 hb
  refine rPe T hS [19] [(4,I 1)] fun a hS=>(aR ?_)
  exact fin T hS hO (fun c=>c) rfl (r:=[ii 1]) kr (fun X' hM hC=>⟨1,hm,rfl⟩)
 replace hm:=hm.2 hb
 refine aI (rPe T hS [19] [(4,I 0)] fun a hS=>?_)
 refine aR ?_
 exact fin T hS hO (fun c=>c) rfl (r:=[ii 0]) kr (fun X' hM hC=>⟨0,hm,rfl⟩)
theorem C209 (IA:S268) (v:∀ (x_:Int) (y_:Int),VC209 x_ y_ (fun r=>r=dh x_ y_)):S209:=fun w X x_ y_=>mo1 (W209 IA w X x_ y_ _ (v x_ y_))
theorem W155 (Mc:S208) (IB:S209) (w0) (X0) (a_:cG) (b_:cG) (Q:Int->Prop) (hm:VC155 a_ b_ Q) :
  rt 155 #[.agg #[ii a_.State,ii a_.Kind,ii a_.Next,ii a_.Result],.agg #[ii b_.State,ii b_.Kind,ii b_.Next,ii b_.Result]] aB w0 X0 (fun w X' v=>∃ r,Q r/\v=ii r):=by
 unfold VC155 at hm
 refine enter Tryz.func155 rfl (vals:=[.agg #[ii a_.State,ii a_.Kind,ii a_.Next,ii a_.Result],.agg #[ii b_.State,ii b_.Kind,ii b_.Next,ii b_.Result]]) kr ?_
 intro Z a hS hO hM
 refine rM T hS ⟨[(2,Pt 3 0),(3,Pt 4 0)],[(3,(123,(cR a_))),(4,(123,(cR b_)))]⟩ fun Z a CC D4 hS hE hr=>?_
 replace hO:=hO.m2 hE
 clear hE hr
 refine eT [3,4] mixed hS ?_
 intro pa qg hS hE hD hH
 replace hO:=hO.m2 hE
 refine tke T [0,2,5,7,1,3,6,8] [3,4] hS hH #[true,true,true,true,false,true,true,true,true,false,false,false,false] 5 [2,3] [(6,I a_.State),(8,I b_.State),(11,I a_.Kind),(13,I b_.Kind)] fun a hS=>(only 4 kr (by rfl) (call hS kr kr hb209 kr (fun _ _=>rfl) (IB _ _ a_.State b_.State) ?_))
 intro v103 a EH wX hE hp hS
 replace hO:=hO.m2 hE
 replace hD:=hD.ev hE rfl
 generalize hr:dh a_.State b_.State=iz at hp
 replace hm:=hm iz hr
 subst hp
 replace hS:=hS.sle [] [(9,I iz)]
 refine cm (br.of hS (bks:=[3,4]) kr hD) ?_
 intro hH
 refine only 9 kr (by rfl) (call hS kr kr hb209 kr (fun _ _=>rfl) (IB _ _ a_.Kind b_.Kind) ?_)
 intro v107 a HR tN hE hp hS
 replace hO:=hO.m2 hE
 replace hD:=hD.ev hE rfl
 generalize hr:dh a_.Kind b_.Kind=fS at hp
 replace hm:=hm fS hr
 subst hp
 replace hS:=hS.sle [] [(14,I fS)]
 refine cm (br.of hS (bks:=[3,4]) kr hD) ?_
 intro hH
 refine only 10 kr (by rfl) (lit (E:=3) (col:=0) (T:=tI) (vals:=[ii iz,ii fS]) (ys:=[iz,fS]) T hS kr kr kr kr (by exact ⟨rfl,rfl,trivial⟩) rfl kr kr kr kr ?_)
 intro b111 a EF AP hE h114 hN hS
 clear hN
 replace hO:=hO.m2 hE
 replace hD:=hD.ev hE rfl
 replace h114:=h114.rs0
 refine cm (br.of hS (bks:=[3,4]) kr hD) ?_
 intro hH
 refine only 11 kr (by rfl) (call hS kr kr hb208 kr (fun _ _=>rfl) (Mc _ _ [iz,fS] (some ⟨b111,0,none⟩) 2 h114) ?_)
 intro v115 a EE Hk hE hp hS
 replace hO:=hO.m2 hE
 replace hD:=hD.ev hE rfl
 replace h114:=h114.m1 hE
 generalize hr:gy [iz,fS]=jF at hp
 replace hm:=hm jF hr
 subst hp
 replace hS:=hS.sle [] [(16,I jF)]
 refine cm (br.of hS (bks:=[3,4]) kr hD) ?_
 intro hH
 refine tke T [12] [3,4] hS hH (tts 13) 0 [6,8,11,13,9,14,15,16] [(4,I jF)] fun a hS=>(bn kr ?_)
 replace hS:=hS.sl ⟨[(4,I jF)],[]⟩
 refine aR ?_
 exact fin T hS hO (fun c=>c) rfl (r:=[ii jF]) kr (fun X' hM hC=>⟨_,hm,rfl⟩)
theorem C155 (Mc:S208) (IB:S209) (v:∀ (a_:cG) (b_:cG),VC155 a_ b_ (fun r=>r=gp a_ b_)):S155:=fun w X a_ b_=>mo1 (W155 Mc IB w X a_ b_ _ (v a_ b_))
theorem W114 (rJ:S113) (Mj:S155) (w0) (X0) (o_:ah) (i_:Int) (a1) (c1) (Q:Int->Prop) (hm:VC114 o_ i_ Q) (h1:RS aF w0 X0 a1 o_.Rows c1) :
  rt 114 #[.agg #[ii o_.ab,ii o_.aP,ii o_.aU,.slice a1 o_.Rows.length c1],ii i_] aB w0 X0 (fun w X' v=>∃ r,Q r/\v=ii r):=by
 unfold VC114 at hm
 replace hm:=hm (h1.sm kr)
 refine enter Tryz.func114 rfl (vals:=[.agg #[ii o_.ab,ii o_.aP,ii o_.aU,.slice a1 o_.Rows.length c1],ii i_]) kr ?_
 intro Z a hS hO hM
 replace h1:=h1.m0 hM
 refine rM T hS ⟨[(1,I i_),(2,Pt 3 0)],[(3,(24,(cO o_ a1 c1)))]⟩ fun Z a Cy AM hS hE hr=>?_
 have ⟨hO,h1⟩:=e2e hE hO.m2 h1.m1
 clear hE hr
 refine bk (oPe T hS 3 [] [(7,Sl a1 o_.Rows c1),(8,I i_)] fun a hS=>?_)
 obtain ⟨hq,hm⟩:=hm
 refine op1 (index (e:=123) (k:=.i64) T hS kr kr kr kr h1 kr kr hq.1 hq.2 ?_)
 intro adl a h102 hS
 refine op1 (lJ T hS kr kr kr h102 kr kr ?_)
 intro v103 a hv hS
 subst hv
 refine eM T hS ⟨[(1,I i_),(2,Pt 3 0),(5,Pt 6 0)],[(3,(24,(cO o_ a1 c1))),(6,(123,(cR (gi o_.Rows i_))))]⟩ fun Z a HN VQ hS hE hr=>?_
 have ⟨hO,h1⟩:=e2e hE hO.m2 h1.m1
 clear hE hr
 refine a8 (aH ?_)
 refine cg (fun a w=>∃ Z X,∃ (dA:Bool),VC114_J1 o_ i_ Q dA/\St Tryz.f114.ntmps ⟨[(1,I i_),(2,Pt 3 0),(5,Pt 6 0),(11,B dA)],[(3,(24,(cO o_ a1 c1))),(6,(123,(cR (gi o_.Rows i_))))]⟩ Z a w X/\Old w0 X0 w X/\RS aF w X a1 o_.Rows c1) ?_ ?_
 ·refine region (oPe T hS 4 [] [(13,I ((gi o_.Rows i_).State)),(15,I o_.ab)] fun a hS=>?_)
  refine op1 (call hS kr kr hb113 kr (fun _ _=>rfl) (rJ _ _ ((gi o_.Rows i_).State) o_.ab) ?_)
  intro v126 a vE AN hE hp hS
  have ⟨hO,h1⟩:=e2e hE hO.m2 h1.m1
  generalize hr:bH ((gi o_.Rows i_).State) o_.ab=zu at hp
  replace hm:=hm zu hr
  subst hp
  refine oPe T hS 2 [13,15,16] [(18,B (!zu))] fun a hS=>?_
  rcases bft (!zu) with hb | hb
  ·replace hS:=hS.lit (t:=18) kr hb
   replace hm:=hm.1 hb
   refine ePe T hS [18] [(11,B true)] fun a hS=>?_
   exact ⟨Z,_,true,hm,hS.sl _,hO,h1⟩
  replace hS:=hS.lit (t:=18) kr hb
  replace hm:=hm.2 hb
  refine oPe T hS 4 [] [(20,I ((gi o_.Rows i_).Next)),(22,I o_.ab)] fun a hS=>(op1 (call hS kr kr hb113 kr (fun _ _=>rfl) (rJ _ _ ((gi o_.Rows i_).Next) o_.ab) ?_))
  intro v130 a yZ JP hE hp hS
  have ⟨hO,h1⟩:=e2e hE hO.m2 h1.m1
  generalize hr:bH ((gi o_.Rows i_).Next) o_.ab=mJ at hp
  replace hm:=hm mJ hr
  subst hp
  refine ePe T hS [18,20,22,23] [(11,B (!mJ))] fun a hS=>?_
  exact ⟨Z,_,(!mJ),hm,hS.sl _,hO,h1⟩
 rintro a Lu ⟨Z,N0,dA,hm,hS,hO,h105⟩
 unfold VC114_J1 at hm
 refine aC hS (b:=dA) kr (fun hb=>?_) fun hb=>?_
 ·replace hm:=hm.1 hb
  refine rP T hS ⟨[(4,I 30)],[]⟩ fun a hS=>(aR ?_)
  exact fin T hS hO (fun c=>c) rfl (r:=[ii 30]) kr (fun X' hM hC=>⟨_,hm,rfl⟩)
 replace hm:=hm.2 hb
 refine bk (oPe T hS 4 [11] [(28,I ((gi o_.Rows i_).Kind)),(30,I o_.aP)] fun a hS=>?_)
 refine op1 (call hS kr kr hb113 kr (fun _ _=>rfl) (rJ _ _ ((gi o_.Rows i_).Kind) o_.aP) ?_)
 intro v106 a o8 oV hE hp hS
 have ⟨hO,h105⟩:=e2e hE hO.m2 h105.m1
 generalize hr:bH ((gi o_.Rows i_).Kind) o_.aP=ga at hp
 replace hm:=hm ga hr
 subst hp
 refine ePe T hS [28,30,31] [(26,B (!ga))] fun a hS=>(aC hS (b:=(!ga)) kr (fun hb=>?_) fun hb=>?_)
 ·replace hm:=hm.1 hb
  refine rP T hS ⟨[(4,I 31)],[]⟩ fun a hS=>(aR ?_)
  exact fin T hS hO (fun c=>c) rfl (r:=[ii 31]) kr (fun X' hM hC=>⟨_,hm,rfl⟩)
 replace hm:=hm.2 hb
 refine bk (oPe T hS 2 [26] [(35,I ((gi o_.Rows i_).Result))] fun a hS=>?_)
 refine op1 (call hS kr kr hb113 kr (fun _ _=>rfl) (rJ _ _ ((gi o_.Rows i_).Result) 1000001) ?_)
 intro v110 a y6 yQ hE hp hS
 have ⟨hO,h105⟩:=e2e hE hO.m2 h105.m1
 generalize hr:bH ((gi o_.Rows i_).Result) 1000001=zx at hp
 replace hm:=hm zx hr
 subst hp
 refine ePe T hS [35,36] [(33,B (!zx))] fun a hS=>(aC hS (b:=(!zx)) kr (fun hb=>?_) fun hb=>?_)
 ·replace hm:=hm.1 hb
  refine rP T hS ⟨[(4,I 7)],[]⟩ fun a hS=>(aR ?_)
  exact fin T hS hO (fun c=>c) rfl (r:=[ii 7]) kr (fun X' hM hC=>⟨7,hm,rfl⟩)
 replace hm:=hm.2 hb
 refine cg (fun a w=>∃ Z X,∃ (rH:Bool),VC114_J2 Q rH/\St Tryz.f114.ntmps ⟨[(38,B rH)],[]⟩ Z a w X/\Old w0 X0 w X) ?_ ?_
 ·refine je [3,6] mixed hS ?_
  intro CD JS hS hE hD hH
  have ⟨hO,h105⟩:=e2e hE hO.m2 h105.m1
  refine tke T [0,1,2] [3,6] hS hH #[true,true,true,false,false,false,false,false,false,false,false,false,false,false] 11 [] [(41,B (decide (i_ > 0)))] fun a hS=>?_
  rcases bft (decide (i_ > 0)) with hb | hb
  ·replace hS:=hS.lit (t:=41) kr hb
   replace hm:=hm.1 hb
   refine tke T [3,5,9,4,6] [3,6] hS hH #[true,true,true,true,true,true,true,false,false,true,false,false,false,false] 6 [1,2,5] [(43,Sl a1 o_.Rows c1),(45,I (wR (i_ - 1))),(48,V (.agg #[ii ((gi o_.Rows i_).State),ii ((gi o_.Rows i_).Kind),ii ((gi o_.Rows i_).Next),ii ((gi o_.Rows i_).Result)]))] fun a hS=>?_
   obtain ⟨hq,hm⟩:=hm
   refine eY (e:=123) (k:=.i64) T 7 hS kr kr kr (by rfl) kr hH kr kr h105 kr kr hq.1 hq.2 ?_
   intro V8 a h118 hS
   have Qq:=h118.here
   refine qO T 8 hS kr kr kr (by rfl) kr hH kr h118 Qq kr kr ?_
   intro v119 a hv hS
   subst hv
   refine only 10 kr (by rfl) (call hS kr kr hb155 kr (fun _ _=>rfl) (Mj _ _ (gi o_.Rows (wR (i_ - 1))) (gi o_.Rows i_)) ?_)
   intro v120 a xa wV hE hp hS
   replace hO:=hO.m2 hE
   replace hD:=hD.ev hE rfl
   have ⟨h105,h118⟩:=e2e hE h105.m1 h118.m1
   generalize hr:gp (gi o_.Rows (wR (i_ - 1))) (gi o_.Rows i_)=bJ at hp
   replace hm:=hm bJ hr
   subst hp
   replace hS:=hS.sle [] [(49,I bJ)]
   refine cm (br.of hS (bks:=[3,6]) kr hD) ?_
   intro hH
   refine tke T [11,12,13] [3,6] hS hH (tts 14) 0 [41,43,45,48,46,47,49] [(38,B (decide (bJ≥0)))] fun a hS=>(bn kr ?_)
   replace hS:=hS.sl ⟨[(38,B (decide (bJ≥0)))],[]⟩
   exact ⟨Z,_,decide (bJ≥0),hm,hS.sl _,hO⟩
  replace hS:=hS.lit (t:=41) kr hb
  replace hm:=hm.2 hb
  refine tke T [3,5,9,4,6,7,8,10,11,12,13] [3,6] hS hH (tts 14) 0 [1,2,5,41] [(38,B false)] fun a hS=>(bn kr ?_)
  replace hS:=hS.sl ⟨[(38,B false)],[]⟩
  exact ⟨Z,_,false,hm,hS.sl _,hO⟩
 rintro a CA ⟨Z,D3,rH,hm,hS,hO⟩
 unfold VC114_J2 at hm
 refine aC hS (b:=rH) kr (fun hb=>?_) fun hb=>?_
 ·replace hm:=hm.1 hb
  refine rPe T hS [38] [(4,I 32)] fun a hS=>(aR ?_)
  exact fin T hS hO (fun c=>c) rfl (r:=[ii 32]) kr (fun X' hM hC=>⟨_,hm,rfl⟩)
 replace hm:=hm.2 hb
 refine aI (rPe T hS [38] [(4,I 0)] fun a hS=>?_)
 refine aR ?_
 exact fin T hS hO (fun c=>c) rfl (r:=[ii 0]) kr (fun X' hM hC=>⟨0,hm,rfl⟩)
theorem C114 (rJ:S113) (Mj:S155) (v:∀ (o_:ah) (i_:Int),vV o_ i_->VC114 o_ i_ (fun r=>r=iA o_ i_)):S114:=fun w X o_ i_ a1 c1 hp h1=>mo1 (W114 rJ Mj w X o_ i_ a1 c1 _ (v o_ i_ hp) h1)
theorem W55 (rJ:S113) (Mw:S114) (w0) (X0) (o_:ah) (a1) (c1) (Q:Int × Int->Prop) (hm:VC55 o_ Q) (h1:RS aF w0 X0 a1 o_.Rows c1) :
  rt 55 #[.agg #[ii o_.ab,ii o_.aP,ii o_.aU,.slice a1 o_.Rows.length c1]] aB w0 X0 (fun w X' v=>∃ r,Q r/\v=.tuple #[ii r.1,ii r.2]):=by
 unfold VC55 at hm
 replace hm:=hm (h1.sm kr)
 refine enter Tryz.func55 rfl (vals:=[.agg #[ii o_.ab,ii o_.aP,ii o_.aU,.slice a1 o_.Rows.length c1]]) kr ?_
 intro Z a hS hO hM
 replace h1:=h1.m0 hM
 refine rM T hS ⟨[(1,Pt 2 0)],[(2,(24,(cO o_ a1 c1)))]⟩ fun Z a Lw N1 hS hE hr=>?_
 have ⟨hO,h1⟩:=e2e hE hO.m2 h1.m1
 clear hE hr
 refine a8 (cg (fun a w=>∃ Z X,∃ (dk:Bool),VC55_J1 o_ Q dk/\St Tryz.f55.ntmps ⟨[(1,Pt 2 0),(25,B dk)],[(2,(24,(cO o_ a1 c1)))]⟩ Z a w X/\Old w0 X0 w X/\RS aF w X a1 o_.Rows c1) ?_ ?_)
 ·refine region (oPe T hS 3 [] [(8,I (wR (o_.ab - 1)))] fun a hS=>?_)
  refine op1 (call hS kr kr hb113 kr (fun _ _=>rfl) (rJ _ _ (wR (o_.ab - 1)) 32) ?_)
  intro v114 a CD JS hE hp hS
  have ⟨hO,h1⟩:=e2e hE hO.m2 h1.m1
  generalize hr:bH (wR (o_.ab - 1)) 32=l9 at hp
  replace hm:=hm l9 hr
  subst hp
  refine oPe T hS 2 [8,9] [(11,B (!l9))] fun a hS=>?_
  rcases bft (!l9) with hb | hb
  ·replace hS:=hS.lit (t:=11) kr hb
   replace hm:=hm.1 hb
   refine ePe T hS [11] [(25,B true)] fun a hS=>?_
   exact ⟨Z,_,true,hm,hS.sl _,hO,h1⟩
  replace hS:=hS.lit (t:=11) kr hb
  replace hm:=hm.2 hb
  refine oPe T hS 3 [] [(14,I (wR (o_.aP - 1)))] fun a hS=>(op1 (call hS kr kr hb113 kr (fun _ _=>rfl) (rJ _ _ (wR (o_.aP - 1)) 64) ?_))
  intro v118 a CC D4 hE hp hS
  have ⟨hO,h1⟩:=e2e hE hO.m2 h1.m1
  generalize hr:bH (wR (o_.aP - 1)) 64=ib at hp
  replace hm:=hm ib hr
  subst hp
  refine oPe T hS 3 [11,14,15] [(18,B (!ib))] fun a hS=>?_
  rcases bft (!ib) with hb | hb
  ·replace hS:=hS.lit (t:=18) kr hb
   replace hm:=hm.1 hb
   refine ePe T hS [18] [(25,B true)] fun a hS=>?_
   exact ⟨Z,_,true,hm,hS.sl _,hO,h1⟩
  replace hS:=hS.lit (t:=18) kr hb
  replace hm:=hm.2 hb
  refine oPe T hS 4 [] [(20,I o_.aU),(22,I o_.ab)] fun a hS=>(op1 (call hS kr kr hb113 kr (fun _ _=>rfl) (rJ _ _ o_.aU o_.ab) ?_))
  intro v122 a HP D3 hE hp hS
  have ⟨hO,h1⟩:=e2e hE hO.m2 h1.m1
  generalize hr:bH o_.aU o_.ab=CU at hp
  replace hm:=hm CU hr
  subst hp
  refine ePe T hS [18,20,22,23] [(25,B (!CU))] fun a hS=>?_
  exact ⟨Z,_,(!CU),hm,hS.sl _,hO,h1⟩
 rintro a vE ⟨Z,AO,dk,hm,hS,hO,h102⟩
 unfold VC55_J1 at hm
 refine aC hS (b:=dk) kr (fun hb=>?_) fun hb=>?_
 ·replace hm:=hm.1 hb
  refine rP T hS ⟨[(2,I (-1)),(3,I 2)],[]⟩ fun a hS=>(aR ?_)
  exact fin T hS hO (fun c=>c) rfl (r:=[ii (-1),ii 2]) kr (fun X' hM hC=>⟨_,hm,rfl⟩)
 replace hm:=hm.2 hb
 refine aI (cg (fun a w=>∃ Z X,VC55_J2 o_ Q/\St Tryz.f55.ntmps ⟨[(1,Pt 2 0)],[(2,(24,(cO o_ a1 c1)))]⟩ Z a w X/\Old w0 X0 w X/\RS aF w X a1 o_.Rows c1) ?_ ?_)
 ·refine rPe T hS [25] [(28,I (lN o_.Rows)),(29,I 0)] fun a hS=>(aH ?_)
  obtain ⟨I1,μ1,cC,hm⟩:=hm
  refine cu (σ:=Int) (fun s a w=>∃ Z X,I1 s/\St Tryz.f55.ntmps ⟨[(1,Pt 2 0),(28,I (lN o_.Rows)),(29,I s)],[(2,(24,(cO o_ a1 c1)))]⟩ Z a w X/\Old w0 X0 w X/\RS aF w X a1 o_.Rows c1) (fun s=>μ1 s) (0) ?_ ?_
  ·exact ⟨Z,_,cC,hS.sl _,hO,h102⟩
  rintro dA a y6 ⟨Z,um,hI,hS,hO,h105⟩
  replace hm:=hm dA hI
  clear hI cC
  refine rPe T hS [] [(30,B (decide (dA < (lN o_.Rows))))] fun a hS=>(a8 ?_)
  refine aC hS (b:=decide (dA < (lN o_.Rows))) kr (fun hb=>?_) fun hb=>?_
  ·replace hm:=hm.1 hb
   refine aI (a8 ?_)
   refine aH (rPe T hS [30] [(4,I dA)] fun a hS=>?_)
   refine bk (oPe T hS 2 [] [(32,V (.agg #[ii o_.ab,ii o_.aP,ii o_.aU,.slice a1 o_.Rows.length c1])),(33,I dA)] fun a hS=>?_)
   obtain ⟨hq,hm⟩:=hm
   refine op1 (call hS kr kr hb114 kr (fun _ _=>rfl) (Mw _ _ o_ dA a1 c1 hq h105) ?_)
   intro v106 a o8 oV hE hp hS
   have ⟨hO,h105⟩:=e2e hE hO.m2 h105.m1
   generalize hr:iA o_ dA=ga at hp
   replace hm:=hm ga hr
   subst hp
   refine ePe T hS [32,33,34] [(5,I ga)] fun a hS=>(rPe T hS [] [(36,B (ga != 0))] fun a hS=>?_)
   refine aC hS (b:=(ga != 0)) kr (fun hb=>?_) fun hb=>?_
   ·replace hm:=hm.1 hb
    refine rP T hS ⟨[(2,I dA),(3,I ga)],[]⟩ fun a hS=>(aR ?_)
    exact fin T hS hO (fun c=>c) rfl (r:=[ii dA,ii ga]) kr (fun X' hM hC=>⟨_,hm,rfl⟩)
   replace hm:=hm.2 hb
   refine aI (region (ePe T hS [4,5,36] [(29,I (wR (dA+1)))] fun a hS=>?_))
   exact ⟨wR (dA+1),⟨Z,_,hm.1,hS.sl _,hO,h105⟩,hm.2⟩
  replace hm:=hm.2 hb
  refine cl (by rfl) ?_
  exact ⟨Z,_,hm,hS.sl _,hO,h105⟩
 rintro a xc ⟨Z,yQ,hm,hS,hO,h103⟩
 unfold VC55_J2 at hm
 refine rP T hS ⟨[(2,I (lN o_.Rows)),(3,I 0)],[]⟩ fun a hS=>(aR ?_)
 exact fin T hS hO (fun c=>c) rfl (r:=[ii (lN o_.Rows),ii 0]) kr (fun X' hM hC=>⟨_,hm,rfl⟩)
theorem C55 (rJ:S113) (Mw:S114) (v:∀ (o_:ah),sS o_->VC55 o_ (fun r=>r=bq o_)):S55:=fun w X o_ a1 c1 hp h1=>mo1 (W55 rJ Mw w X o_ a1 c1 _ (v o_ hp) h1)
theorem W87 (w0) (X0) (r_:cG) (aj:Int) (aX:Int) (b1) (i1) (b2) (i2) (Q:Bool->Prop) (hm:VC87 r_ aj aX Q) (eO:Cell w0 X0 b1 i1 3 [ii aj]) (lz:Cell w0 X0 b2 i2 3 [ii aX]) (hA:dL [i1,i2]) :
  rt 87 #[.agg #[ii r_.State,ii r_.Kind,ii r_.Next,ii r_.Result],.pointer (some ⟨b1,0,none⟩),.pointer (some ⟨b2,0,none⟩)] (pR [i1,i2]) w0 X0 (fun w X' v=>∃ r,Q r/\v=.bool r/\Cell w X' b1 i1 3 [ii aj]/\Cell w X' b2 i2 3 [ii aX]):=by
 unfold VC87 at hm
 refine fO Tryz.func87 rfl (eH [(i1,901),(i2,902)]) (zi2 b1 b2) (args:=[V (.agg #[ii r_.State,ii r_.Kind,ii r_.Next,ii r_.Result]),Pt 901 0,Pt 902 0]) (bxs:=[(901,(3,[I aj])),(902,(3,[I aX]))]) kr rfl (aY.cons kr (eO.map (cr 0 hA.1 rfl)) (aY.cons kr (lz.map (cr 1 hA.1 rfl)) aY.nil)) (fC (fun q hq=>(hA.2 q.1 (List.mem_map.2 ⟨q,hq,rfl⟩)).1)) ?_
 intro a hS hO hM
 have hP:=pn2 b1 b2
 generalize (zi2 b1 b2)=Z at hS hP
 clear eO lz
 refine rM T hS ⟨[(1,Pt 901 0),(2,Pt 902 0),(3,Pt 4 0)],[(4,(123,(cR r_))),(901,(3,[I aj])),(902,(3,[I aX]))]⟩ fun Z a pa qg hS hE hr=>?_
 replace hO:=hO.m2 hE
 replace hP:=hP.mv hr kr
 clear hE hr
 refine bk (oP T hS 8 ⟨[(5,V (.agg #[ii r_.State,ii r_.Kind,ii r_.Next,ii r_.Result])),(12,V (.agg #[ii aj,ii aX,ii r_.Next,ii r_.Result]))],[(901,(3,[I aj])),(902,(3,[I aX]))]⟩ fun a hS=>?_)
 refine op1 (structEq (op:=.eql) (xs:=[ii r_.State,ii r_.Kind,ii r_.Next,ii r_.Result]) (ys:=[ii aj,ii aX,ii r_.Next,ii r_.Result]) (r:=(r_.State == aj && (r_.Kind == aX && (r_.Next == r_.Next && (r_.Result == r_.Result && true))))) (b:=(r_.State == aj && (r_.Kind == aX && (r_.Next == r_.Next && (r_.Result == r_.Result && true))))) T hS kr kr kr kr kr kr kr kr ?_)
 intro a hS
 refine ePe T hS [5,12,13] [(4,B (r_.State == aj && (r_.Kind == aX && (r_.Next == r_.Next && (r_.Result == r_.Result && true)))))] fun a hS=>(aR ?_)
 exact jP T hS hO (fun c h=>cw kr h) (fun c h=>cz (l:=[(i1,901),(i2,902)]) h) (dC [(i1,901),(i2,902)]) rfl (r:=[.bool (r_.State == aj && (r_.Kind == aX && (r_.Next == r_.Next && (r_.Result == r_.Result && true))))]) kr (fun X' hM hC=>⟨_,hm,rfl,((hS.cell (id:=901) (t:=3) (cs:=[I aj]) kr).out (f:=(dC [(i1,901),(i2,902)])) hC kr kr (hP.at 0 rfl)),((hS.cell (id:=902) (t:=3) (cs:=[I aX]) kr).out (f:=(dC [(i1,901),(i2,902)])) hC kr kr (hP.at 1 rfl))⟩)
theorem C87 (v:∀ (r_:cG) (aj:Int) (aX:Int),VC87 r_ aj aX (fun r=>r=gF r_ aj aX)):S87:=fun w X r_ aj aX b1 i1 b2 i2 eO lz hA=>mo1 (W87 w X r_ aj aX b1 i1 b2 i2 _ (v r_ aj aX) eO lz hA)
theorem W88_87 (Tq:S87) (w0) (X0) (s_:List cG) (aj:Int) (aX:Int) (a1) (c1) (b1) (i1) (b2) (i2) (Q:Int->Prop) (hm:VC88_87 s_ aj aX Q) (h1:RS aF w0 X0 a1 s_ c1) (eO:Cell w0 X0 b1 i1 3 [ii aj]) (lz:Cell w0 X0 b2 i2 3 [ii aX]) (hA:dL [i1,i2]) :
  rt 88 #[.slice a1 s_.length c1,.func (.func 87) #[] #[.pointer (some ⟨b1,0,none⟩),.pointer (some ⟨b2,0,none⟩)]] (pR [i1,i2]) w0 X0 (fun w X' v=>∃ r,Q r/\v=ii r/\Cell w X' b1 i1 3 [ii aj]/\Cell w X' b2 i2 3 [ii aX]):=by
 unfold VC88_87 at hm
 replace hm:=hm (h1.sm kr)
 refine fO Tryz.func88 rfl (eH [(i1,901),(i2,902)]) (zi2 b1 b2) (args:=[Sl a1 s_ c1,.f (.func 87) [] [.p 901 0,.p 902 0]]) (bxs:=[(901,(3,[I aj])),(902,(3,[I aX]))]) kr rfl (aY.cons kr (eO.map (cr 0 hA.1 rfl)) (aY.cons kr (lz.map (cr 1 hA.1 rfl)) aY.nil)) (fC (fun q hq=>(hA.2 q.1 (List.mem_map.2 ⟨q,hq,rfl⟩)).1)) ?_
 intro a hS hO hM
 have hP:=pn2 b1 b2
 generalize (zi2 b1 b2)=Z at hS hP
 clear eO lz
 replace h1:=h1.m0 hM
 refine rPe T hS [] [] fun a hS=>(cg (fun a w=>∃ Z X,VC88_87_J1 Q/\St Tryz.f88.ntmps ⟨[],[(901,(3,[I aj])),(902,(3,[I aX]))]⟩ Z a w X/\iR (eH [(i1,901),(i2,902)]) w0 X0 w X/\Pin [(901,b1),(902,b2)] Z) ?_ ?_)
 ·refine rPe T hS [] [(7,I (lN s_)),(8,I 0)] fun a hS=>(aH ?_)
  obtain ⟨I1,μ1,cC,hm⟩:=hm
  refine cu (σ:=Int) (fun s a w=>∃ Z X,I1 s/\St Tryz.f88.ntmps ⟨[(0,Sl a1 s_ c1),(1,.f (.func 87) [] [.p 901 0,.p 902 0]),(7,I (lN s_)),(8,I s)],[(901,(3,[I aj])),(902,(3,[I aX]))]⟩ Z a w X/\iR (eH [(i1,901),(i2,902)]) w0 X0 w X/\Pin [(901,b1),(902,b2)] Z/\RS aF w X a1 s_ c1) (fun s=>μ1 s) (0) ?_ ?_
  ·exact ⟨Z,_,cC,hS.sl _,hO,hP,h1⟩
  rintro bE a xc ⟨Z,yQ,hI,hS,hO,hP,h101⟩
  replace hm:=hm bE hI
  clear hI cC
  refine rPe T hS [] [(9,B (decide (bE < (lN s_))))] fun a hS=>(a8 ?_)
  refine aC hS (b:=decide (bE < (lN s_))) kr (fun hb=>?_) fun hb=>?_
  ·replace hm:=hm.1 hb
   refine aI (a8 ?_)
   refine aH (rPe T hS [9] [(5,I bE)] fun a hS=>?_)
   refine bk (oPe T hS 3 [] [(11,.f (.func 87) [] [.p 901 0,.p 902 0]),(12,Sl a1 s_ c1),(13,I bE)] fun a hS=>?_)
   obtain ⟨hq,hm⟩:=hm
   refine op1 (index (e:=123) (k:=.i64) T hS kr kr kr kr h101 kr kr hq.1 hq.2 ?_)
   intro Hr a h104 hS
   refine op1 (lJ T hS kr kr kr h104 kr kr ?_)
   intro v105 a hv hS
   subst hv
   refine op1 (gJ (fi:=[]) (cp:=[.p 901 0,.p 902 0]) hS kr kr hb87 kr kr (Tq _ _ (gi s_ bE) aj aX (Z 901) 901 (Z 902) 902 (hS.cell (id:=901) (t:=3) (cs:=[I aj]) kr) (hS.cell (id:=902) (t:=3) (cs:=[I aX]) kr) ⟨by decide,by decide⟩) ?_)
   intro v106 a o8 oV hE hp hS
   have ⟨hO,h101,h104⟩:=e3e hE hO.m2 h101.m1 h104.m1
   obtain ⟨hp,rm,rk⟩:=hp
   generalize hr:gF (gi s_ bE) aj aX=ga at hp
   replace hm:=hm ga hr
   subst hp
   replace hS:=hS.cZ (id:=901) (t:=3) (cs:=[I aj]) kr rm
   replace hS:=hS.cZ (id:=902) (t:=3) (cs:=[I aX]) kr rk
   clear rm rk
   refine gM (aC hS (b:=ga) kr (fun hb=>?_) fun hb=>?_)
   ·replace hm:=hm.1 hb
    refine rPe T hS [0,1,5,7,8,16] [(4,I bE)] fun a hS=>(aR ?_)
    exact jP T hS hO (fun c h=>cw kr h) (fun c h=>cz (l:=[(i1,901),(i2,902)]) h) (dC [(i1,901),(i2,902)]) rfl (r:=[ii bE]) kr (fun X' hM hC=>⟨_,hm,rfl,((hS.cell (id:=901) (t:=3) (cs:=[I aj]) kr).out (f:=(dC [(i1,901),(i2,902)])) hC kr kr (hP.at 0 rfl)),((hS.cell (id:=902) (t:=3) (cs:=[I aX]) kr).out (f:=(dC [(i1,901),(i2,902)])) hC kr kr (hP.at 1 rfl))⟩)
   replace hm:=hm.2 hb
   refine aI (region (ePe T hS [5,16] [(8,I (wR (bE+1)))] fun a hS=>?_))
   exact ⟨wR (bE+1),⟨Z,_,hm.1,hS.sl _,hO,hP,h101⟩,hm.2⟩
  replace hm:=hm.2 hb
  refine cl (by rfl) ?_
  exact ⟨Z,_,hm,hS.sl _,hO,hP⟩
 rintro a CD ⟨Z,wW,hm,hS,hO,hP⟩
 unfold VC88_87_J1 at hm
 refine rPe T hS [] [(4,I (-1))] fun a hS=>(aR ?_)
 exact jP T hS hO (fun c h=>cw kr h) (fun c h=>cz (l:=[(i1,901),(i2,902)]) h) (dC [(i1,901),(i2,902)]) rfl (r:=[ii (-1)]) kr (fun X' hM hC=>⟨_,hm,rfl,((hS.cell (id:=901) (t:=3) (cs:=[I aj]) kr).out (f:=(dC [(i1,901),(i2,902)])) hC kr kr (hP.at 0 rfl)),((hS.cell (id:=902) (t:=3) (cs:=[I aX]) kr).out (f:=(dC [(i1,901),(i2,902)])) hC kr kr (hP.at 1 rfl))⟩)
theorem C88_87 (Tq:S87) (v:∀ (s_:List cG) (aj:Int) (aX:Int),VC88_87 s_ aj aX (fun r=>r=aV s_ aj aX)):S88_87:=fun w X s_ aj aX a1 c1 b1 i1 b2 i2 h1 eO lz hA=>mo1 (W88_87 Tq w X s_ aj aX a1 c1 b1 i1 b2 i2 _ (v s_ aj aX) h1 eO lz hA)
theorem W38 (zO:S88_87) (w0) (X0) (o_:ah) (state:Int) (kind:Int) (a1) (c1) (Q:Int × Int × Bool->Prop) (hm:VC38 o_ state kind Q) (h1:RS aF w0 X0 a1 o_.Rows c1) :
  rt 38 #[.agg #[ii o_.ab,ii o_.aP,ii o_.aU,.slice a1 o_.Rows.length c1],ii state,ii kind] aB w0 X0 (fun w X' v=>∃ r,Q r/\v=.tuple #[ii r.1,ii r.2.1,.bool r.2.2]):=by
 unfold VC38 at hm
 replace hm:=hm (h1.sm kr)
 refine enter Tryz.func38 rfl (vals:=[.agg #[ii o_.ab,ii o_.aP,ii o_.aU,.slice a1 o_.Rows.length c1],ii state,ii kind]) kr ?_
 intro Z a hS hO hM
 replace h1:=h1.m0 hM
 refine rM T hS ⟨[(3,Pt 4 0),(4,Pt 5 0),(5,Pt 6 0)],[(4,(24,(cO o_ a1 c1))),(5,(3,[I state])),(6,(3,[I kind]))]⟩ fun Z a CC D4 hS hE hr=>?_
 have ⟨hO,h1⟩:=e2e hE hO.m2 h1.m1
 clear hE hr
 refine rPe T hS [4,5] [(9,.f (.func 87) [] [.p 5 0,.p 6 0])] fun a hS=>(bk ?_)
 refine oPe T hS 3 [9] [(13,Sl a1 o_.Rows c1),(14,.f (.func 87) [] [.p 5 0,.p 6 0])] fun a hS=>(op1 (pY hS kr kr hb88 kr (zO _ _ o_.Rows state kind a1 c1 (Z 5) 5 (Z 6) 6 h1 (hS.cell (id:=5) (t:=3) (cs:=[I state]) kr) (hS.cell (id:=6) (t:=3) (cs:=[I kind]) kr) ⟨by decide,by decide⟩) ?_))
 intro v101 a eI eN hE hp hS
 have ⟨hO,h1⟩:=e2e hE hO.m2 h1.m1
 obtain ⟨hp,rn,KP⟩:=hp
 generalize hr:aV o_.Rows state kind=al at hp
 replace hm:=hm al hr
 subst hp
 replace hS:=hS.cZ (id:=5) (t:=3) (cs:=[I state]) kr rn
 replace hS:=hS.cZ (id:=6) (t:=3) (cs:=[I kind]) kr KP
 clear rn KP
 refine eP T hS ⟨[(3,Pt 4 0),(10,I al)],[(4,(24,(cO o_ a1 c1)))]⟩ fun a hS=>(a8 ?_)
 refine rPe T hS [] [(17,B (decide (al < 0)))] fun a hS=>(aC hS (b:=decide (al < 0)) kr (fun hb=>?_) fun hb=>?_)
 ·replace hm:=hm.1 hb
  refine rP T hS ⟨[(6,I 0),(7,I 0),(8,B false)],[]⟩ fun a hS=>(aR ?_)
  exact fin T hS hO (fun c=>c) rfl (r:=[ii 0,ii 0,.bool false]) kr (fun X' hM hC=>⟨_,hm,rfl⟩)
 replace hm:=hm.2 hb
 refine aI (eT [4] mixed hS ?_)
 intro o8 oV hS hE hD hH
 have ⟨hO,h1⟩:=e2e hE hO.m2 h1.m1
 refine tke T [0,2,6,8,1,7] [4] hS hH #[true,true,true,false,false,false,true,true,true,false,false,false,false,false,false] 9 [3,10] [(19,Sl a1 o_.Rows c1),(20,I al),(25,Sl a1 o_.Rows c1),(26,I al)] fun a hS=>?_
 obtain ⟨hq,hm⟩:=hm
 refine eY (e:=123) (k:=.i64) T 3 hS kr kr kr (by rfl) kr hH kr kr h1 kr kr hq.1 hq.2 ?_
 intro RP a h110 hS
 have u7:=h110.here
 refine gN (off:=2) (fsz:=1) (ft:=3) (TF:=tI) (y:=(gi o_.Rows al).Next) 4 T hS kr kr kr (by rfl) kr hH kr h110 kr kr kr (fun cs h=>tQ h) ?_
 intro RO a h112 kV hS
 have Cc:=u7
 rw [← kV] at Cc
 clear kV
 refine gu T 5 hS kr kr kr (by rfl) kr hH kr h112 Cc rfl kr ?_
 intro v113 a hv hS
 cases hv
 refine tke T [12] [4] hS hH #[true,true,true,true,true,true,true,true,true,false,false,false,true,false,false] 5 [19,20,21,22,23] [(6,I ((gi o_.Rows al).Next))] fun a hS=>?_
 obtain ⟨hq,hm⟩:=hm
 refine eY (e:=123) (k:=.i64) T 9 hS kr kr kr (by rfl) kr hH kr kr h1 kr kr hq.1 hq.2 ?_
 intro RN a h115 hS
 have Cb:=h115.here
 refine gN (off:=3) (fsz:=1) (ft:=3) (TF:=tI) (y:=(gi o_.Rows al).Result) 10 T hS kr kr kr (by rfl) kr hH kr h115 kr kr kr (fun cs h=>tP h) ?_
 intro N8 a h117 kV hS
 have Ca:=Cb
 rw [← kV] at Ca
 clear kV
 refine gu T 11 hS kr kr kr (by rfl) kr hH kr h117 Ca rfl kr ?_
 intro v118 a hv hS
 cases hv
 refine tke T [13,14] [4] hS hH (tts 15) 0 [25,26,27,28,29] [(7,I ((gi o_.Rows al).Result)),(8,B true)] fun a hS=>(bn kr ?_)
 replace hS:=hS.sl ⟨[(6,I ((gi o_.Rows al).Next)),(7,I ((gi o_.Rows al).Result)),(8,B true)],[]⟩
 refine aR ?_
 exact fin T hS hO (fun c=>c) rfl (r:=[ii ((gi o_.Rows al).Next),ii ((gi o_.Rows al).Result),.bool true]) kr (fun X' hM hC=>⟨_,hm,rfl⟩)
theorem C38 (zO:S88_87) (v:∀ (o_:ah) (state:Int) (kind:Int),VC38 o_ state kind (fun r=>r=eQ o_ state kind)):S38:=fun w X o_ state kind a1 c1 h1=>mo1 (W38 zO w X o_ state kind a1 c1 _ (v o_ state kind) h1)
theorem W67 (w0) (X0) (a_:ae) (b_:ae) (Q:Bool->Prop) (hm:VC67 a_ b_ Q) :
  rt 67 #[.agg #[ii a_.Prc,ii a_.Kind,ii a_.aN,ii a_.End,ii a_.Result],.agg #[ii b_.Prc,ii b_.Kind,ii b_.aN,ii b_.End,ii b_.Result]] aB w0 X0 (fun w X' v=>∃ r,Q r/\v=.bool r):=by
 unfold VC67 at hm
 refine enter Tryz.func67 rfl (vals:=[.agg #[ii a_.Prc,ii a_.Kind,ii a_.aN,ii a_.End,ii a_.Result],.agg #[ii b_.Prc,ii b_.Kind,ii b_.aN,ii b_.End,ii b_.Result]]) kr ?_
 intro Z a hS hO hM
 refine rM T hS ⟨[(2,Pt 3 0),(3,Pt 4 0)],[(3,(91,[I a_.Prc,I a_.Kind,I a_.aN,I a_.End,I a_.Result])),(4,(91,[I b_.Prc,I b_.Kind,I b_.aN,I b_.End,I b_.Result]))]⟩ fun Z a pa qg hS hE hr=>?_
 replace hO:=hO.m2 hE
 clear hE hr
 refine rP T hS ⟨[(4,B ((decide (a_.End≥0)) && (decide (a_.End < b_.aN))))],[]⟩ (sp:=[8]) fun a hS=>(aR ?_)
 exact fin T hS hO (fun c=>c) rfl (r:=[.bool ((decide (a_.End≥0)) && (decide (a_.End < b_.aN)))]) kr (fun X' hM hC=>⟨_,hm,rfl⟩)
theorem C67 (v:∀ (a_:ae) (b_:ae),VC67 a_ b_ (fun r=>r=bG a_ b_)):S67:=fun w X a_ b_=>mo1 (W67 w X a_ b_ _ (v a_ b_))
theorem W156 (w0) (X0) (o_:ae) (Q:Bool->Prop) (hm:VC156 o_ Q) :
  rt 156 #[.agg #[ii o_.Prc,ii o_.Kind,ii o_.aN,ii o_.End,ii o_.Result]] aB w0 X0 (fun w X' v=>∃ r,Q r/\v=.bool r):=by
 unfold VC156 at hm
 refine enter Tryz.func156 rfl (vals:=[.agg #[ii o_.Prc,ii o_.Kind,ii o_.aN,ii o_.End,ii o_.Result]]) kr ?_
 intro Z a hS hO hM
 refine rM T hS ⟨[(1,Pt 2 0)],[(2,(91,[I o_.Prc,I o_.Kind,I o_.aN,I o_.End,I o_.Result]))]⟩ fun Z a pa qg hS hE hr=>?_
 replace hO:=hO.m2 hE
 clear hE hr
 refine a8 (rPe T hS [] [(5,B (o_.End == (-1)))] fun a hS=>?_)
 refine aC hS (b:=(o_.End == (-1))) kr (fun hb=>?_) fun hb=>?_
 ·replace hm:=hm.1 hb
  refine rP T hS ⟨[(2,B (o_.Result == (-1)))],[]⟩ fun a hS=>(aR ?_)
  exact fin T hS hO (fun c=>c) rfl (r:=[.bool (o_.Result == (-1))]) kr (fun X' hM hC=>⟨_,hm,rfl⟩)
 replace hm:=hm.2 hb
 refine aI (rP T hS ⟨[(2,B ((((decide (o_.End > o_.aN)) && (decide (o_.End≤9999))) && (decide (o_.Result≥0))) && (decide (o_.Result≤1000000))))],[]⟩ (sp:=[14,19,24]) fun a hS=>?_)
 refine aR ?_
 exact fin T hS hO (fun c=>c) rfl (r:=[.bool ((((decide (o_.End > o_.aN)) && (decide (o_.End≤9999))) && (decide (o_.Result≥0))) && (decide (o_.Result≤1000000)))]) kr (fun X' hM hC=>⟨_,hm,rfl⟩)
theorem C156 (v:∀ (o_:ae),VC156 o_ (fun r=>r=eG o_)):S156:=fun w X o_=>mo1 (W156 w X o_ _ (v o_))
theorem W115 (Mi:S156) (w0) (X0) (o_:ae) (Q:Int->Prop) (hm:VC115 o_ Q) :
  rt 115 #[.agg #[ii o_.Prc,ii o_.Kind,ii o_.aN,ii o_.End,ii o_.Result]] aB w0 X0 (fun w X' v=>∃ r,Q r/\v=ii r):=by
 unfold VC115 at hm
 refine enter Tryz.func115 rfl (vals:=[.agg #[ii o_.Prc,ii o_.Kind,ii o_.aN,ii o_.End,ii o_.Result]]) kr ?_
 intro Z a hS hO hM
 refine rM T hS ⟨[(1,Pt 2 0)],[(2,(91,[I o_.Prc,I o_.Kind,I o_.aN,I o_.End,I o_.Result]))]⟩ fun Z a qj oW hS hE hr=>?_
 replace hO:=hO.m2 hE
 clear hE hr
 refine a8 (aH ?_)
 refine rPe T hS [] [(3,B ((((decide (o_.Prc < 1)) || (decide (o_.Prc > 1000))) || (decide (o_.aN < 0))) || (decide (o_.aN > 9999))))] (sp:=[7,12,17]) fun a hS=>(aC hS (b:=((((decide (o_.Prc < 1)) || (decide (o_.Prc > 1000))) || (decide (o_.aN < 0))) || (decide (o_.aN > 9999)))) kr (fun hb=>?_) fun hb=>?_)
 ·replace hm:=hm.1 hb
  refine rP T hS ⟨[(2,I 2)],[]⟩ fun a hS=>(aR ?_)
  exact fin T hS hO (fun c=>c) rfl (r:=[ii 2]) kr (fun X' hM hC=>⟨2,hm,rfl⟩)
 replace hm:=hm.2 hb
 refine rPe T hS [3] [(22,B ((decide (o_.Kind < 0)) || (decide (o_.Kind≥64))))] (sp:=[26]) fun a hS=>(aC hS (b:=((decide (o_.Kind < 0)) || (decide (o_.Kind≥64)))) kr (fun hb=>?_) fun hb=>?_)
 ·replace hm:=hm.1 hb
  refine rP T hS ⟨[(2,I 31)],[]⟩ fun a hS=>(aR ?_)
  exact fin T hS hO (fun c=>c) rfl (r:=[ii 31]) kr (fun X' hM hC=>⟨_,hm,rfl⟩)
 replace hm:=hm.2 hb
 refine bk (oP T hS 1 ⟨[(32,V (.agg #[ii o_.Prc,ii o_.Kind,ii o_.aN,ii o_.End,ii o_.Result]))],[]⟩ fun a hS=>?_)
 refine op1 (call hS kr kr hb156 kr (fun _ _=>rfl) (Mi _ _ o_) ?_)
 intro v101 a eI eN hE hp hS
 replace hO:=hO.m2 hE
 generalize hr:eG o_=al at hp
 replace hm:=hm al hr
 subst hp
 refine ePe T hS [32,33] [(31,B (!al))] fun a hS=>(aC hS (b:=(!al)) kr (fun hb=>?_) fun hb=>?_)
 ·replace hm:=hm.1 hb
  refine rPe T hS [31] [(2,I 7)] fun a hS=>(aR ?_)
  exact fin T hS hO (fun c=>c) rfl (r:=[ii 7]) kr (fun X' hM hC=>⟨7,hm,rfl⟩)
 replace hm:=hm.2 hb
 refine aI (rPe T hS [31] [(2,I 0)] fun a hS=>?_)
 refine aR ?_
 exact fin T hS hO (fun c=>c) rfl (r:=[ii 0]) kr (fun X' hM hC=>⟨0,hm,rfl⟩)
theorem C115 (Mi:S156) (v:∀ (o_:ae),VC115 o_ (fun r=>r=dY o_)):S115:=fun w X o_=>mo1 (W115 Mi w X o_ _ (v o_))
theorem W56 (Mu:S115) (L4:S67) (w0) (X0) (l_:List ae) (a1) (c1) (Q:Int × Int->Prop) (hm:VC56 l_ Q) (h1:RS ar w0 X0 a1 l_ c1) :
  rt 56 #[.slice a1 l_.length c1] aB w0 X0 (fun w X' v=>∃ r,Q r/\v=.tuple #[ii r.1,ii r.2]):=by
 unfold VC56 at hm
 replace hm:=hm (h1.sm kr)
 refine enter Tryz.func56 rfl (vals:=[.slice a1 l_.length c1]) kr ?_
 intro Z a hS hO hM
 replace h1:=h1.m0 hM
 refine rPe T hS [] [] fun a hS=>(a8 ?_)
 refine rPe T hS [] [(13,B (decide ((lN l_) > 5000)))] fun a hS=>(aC hS (b:=decide ((lN l_) > 5000)) kr (fun hb=>?_) fun hb=>?_)
 ·replace hm:=hm.1 hb
  refine rPe T hS [0,13] [(2,I 0),(3,I 3)] fun a hS=>(aR ?_)
  exact fin T hS hO (fun c=>c) rfl (r:=[ii 0,ii 3]) kr (fun X' hM hC=>⟨_,hm,rfl⟩)
 replace hm:=hm.2 hb
 refine aI (bk ?_)
 refine op1 (J9 kI tI false 1015 hS kr kr ?_)
 intro ij a eI eN hE h104 hS
 have ⟨hO,h1⟩:=e2e hE hO.m2 h1.m1
 refine ePe T hS [13,14] [(4,V (.map (some ij)))] fun a hS=>(bk ?_)
 refine op1 (J9 kI ar true 1016 hS kr kr ?_)
 intro jU a o9 qf hE h108 hS
 have ⟨hO,h1,h104⟩:=e3e hE hO.m2 h1.m1 h104.m2
 refine ePe T hS [15] [(5,V (.map (some jU)))] fun a hS=>(cg (fun a w=>∃ Z X,VC56_J1 l_ Q/\St Tryz.f56.ntmps ⟨[(0,Sl a1 l_ c1)],[]⟩ Z a w X/\Old w0 X0 w X/\RS ar w X a1 l_ c1) ?_ ?_)
 ·refine rPe T hS [] [(16,Sl a1 l_ c1),(17,I (lN l_)),(18,I 0)] fun a hS=>(aH ?_)
  obtain ⟨I1,μ1,cC,hm⟩:=hm
  refine cu (σ:=(List (Int × Int)) × (List (Int × ae)) × Int) (fun s a w=>∃ Z X,I1 s.1 s.2.1 s.2.2/\St Tryz.f56.ntmps ⟨[(0,Sl a1 l_ c1),(4,V (.map (some ij))),(5,V (.map (some jU))),(16,Sl a1 l_ c1),(17,I (lN l_)),(18,I s.2.2)],[]⟩ Z a w X/\Old w0 X0 w X/\RS ar w X a1 l_ c1/\OM kI tI false w X 1015 ij s.1/\OM kI ar true w X 1016 jU s.2.1/\RS ar w X a1 l_ c1) (fun s=>μ1 s.1 s.2.1 s.2.2) (⟨([]:List (Int × Int)),([]:List (Int × ae)),0⟩) ?_ ?_
  ·exact ⟨Z,_,cC,hS.sl _,hO,h1,h104,h108,h1⟩
  rintro ⟨bO,bw,aG⟩ a HK ⟨Z,Rs,hI,hS,hO,h110,h112,h114,h115⟩
  replace hm:=hm bO bw aG hI
  clear hI cC
  refine rPe T hS [] [(19,B (decide (aG < (lN l_))))] fun a hS=>(a8 ?_)
  refine aC hS (b:=decide (aG < (lN l_))) kr (fun hb=>?_) fun hb=>?_
  ·replace hm:=hm.1 hb
   refine aI (cg (fun a w=>∃ Z X,∃ (dM:List (Int × Int)),VC56_J2 l_ I1 μ1 bO bw aG dM/\St Tryz.f56.ntmps ⟨[(0,Sl a1 l_ c1),(4,V (.map (some ij))),(5,V (.map (some jU))),(16,Sl a1 l_ c1),(17,I (lN l_)),(18,I aG)],[]⟩ Z a w X/\Old w0 X0 w X/\RS ar w X a1 l_ c1/\OM kI tI false w X 1015 ij dM/\OM kI ar true w X 1016 jU (gb bw ((gi l_ aG).Prc) (gi l_ aG))/\RS ar w X a1 l_ c1) ?_ ?_)
   ·refine aH (bk ?_)
    refine oPe T hS 1 [19] [(20,I aG)] fun a hS=>?_
    obtain ⟨hq,hm⟩:=hm
    refine op1 (index (e:=91) (k:=.i64) T hS kr kr kr kr h115 kr kr hq.1 hq.2 ?_)
    intro Hq a h123 hS
    refine op1 (lJ T hS kr kr kr h123 kr kr ?_)
    intro v124 a hv hS
    subst hv
    refine eM T hS ⟨[(0,Sl a1 l_ c1),(4,V (.map (some ij))),(5,V (.map (some jU))),(6,I aG),(7,Pt 8 0),(16,Sl a1 l_ c1),(17,I (lN l_)),(18,I aG)],[(8,(91,[I ((gi l_ aG).Prc),I ((gi l_ aG).Kind),I ((gi l_ aG).aN),I ((gi l_ aG).End),I ((gi l_ aG).Result)]))]⟩ fun Z a OA Ru hS hE hr=>?_
    have ⟨hO,h110,h112,h114,h115⟩:=e5e hE hO.m2 h110.m1 h112.m2 h114.m2 h115.m1
    clear hE hr
    refine a8 (bk ?_)
    refine oPe T hS 1 [] [(23,V (.agg #[ii ((gi l_ aG).Prc),ii ((gi l_ aG).Kind),ii ((gi l_ aG).aN),ii ((gi l_ aG).End),ii ((gi l_ aG).Result)]))] fun a hS=>(op1 (call hS kr kr hb115 kr (fun _ _=>rfl) (Mu _ _ (gi l_ aG)) ?_))
    intro v125 a Cz N2 hE hp hS
    have ⟨hO,h110,h112,h114,h115⟩:=e5e hE hO.m2 h110.m1 h112.m2 h114.m2 h115.m1
    generalize hr:dY (gi l_ aG)=fB at hp
    replace hm:=hm fB hr
    subst hp
    refine ePe T hS [23,24] [(8,I fB)] fun a hS=>(rPe T hS [] [(26,B (fB != 0))] fun a hS=>?_)
    refine aC hS (b:=(fB != 0)) kr (fun hb=>?_) fun hb=>?_
    ·replace hm:=hm.1 hb
     refine rP T hS ⟨[(2,I aG),(3,I fB)],[]⟩ fun a hS=>(aR ?_)
     exact fin T hS hO (fun c=>c) rfl (r:=[ii aG,ii fB]) kr (fun X' hM hC=>⟨_,hm,rfl⟩)
    replace hm:=hm.2 hb
    refine aI (a8 ?_)
    refine cg (fun a w=>∃ Z X,∃ (iU:Bool),VC56_J3 l_ Q I1 μ1 bO bw aG iU/\St Tryz.f56.ntmps ⟨[(0,Sl a1 l_ c1),(4,V (.map (some ij))),(5,V (.map (some jU))),(6,I aG),(7,Pt 8 0),(16,Sl a1 l_ c1),(17,I (lN l_)),(18,I aG),(60,B iU)],[(8,(91,[I ((gi l_ aG).Prc),I ((gi l_ aG).Kind),I ((gi l_ aG).aN),I ((gi l_ aG).End),I ((gi l_ aG).Result)]))]⟩ Z a w X/\Old w0 X0 w X/\RS ar w X a1 l_ c1/\OM kI tI false w X 1015 ij bO/\OM kI ar true w X 1016 jU bw/\RS ar w X a1 l_ c1) ?_ ?_
    ·refine je [8] mixed hS ?_
     intro OG Rx hS hE hD hH
     have ⟨hO,h110,h112,h114,h115⟩:=e5e hE hO.m2 h110.m1 h112.m2 h114.m2 h115.m1
     refine tke T [0,1,2] [8] hS hH #[true,true,true,false,false,false,false,false,false,false,false,false,false,false,false,false,false,false,false,false,false,false,false,false,false,false,false,false,false,false,false,false] 29 [] [(31,B (decide (aG > 0)))] fun a hS=>?_
     rcases bft (decide (aG > 0)) with hb | hb
     ·replace hS:=hS.lit (t:=31) kr hb
      replace hm:=hm.1 hb
      refine tke T [3,5,6,4,7] [8] hS hH #[true,true,true,true,true,true,true,true,false,false,false,false,false,false,false,false,false,false,false,false,false,false,false,false,false,false,false,false,false,false,false,false] 24 [] [(33,I ((gi l_ aG).aN)),(34,Sl a1 l_ c1),(36,I (wR (aG - 1)))] fun a hS=>?_
      obtain ⟨hq,hm⟩:=hm
      refine eY (e:=91) (k:=.i64) T 8 hS kr kr kr (by rfl) kr hH kr kr h110 kr kr hq.1 hq.2 ?_
      intro RI a h159 hS
      have Qf:=h159.here
      refine gN (off:=2) (fsz:=1) (ft:=3) (TF:=tI) (y:=(gi l_ (wR (aG - 1))).aN) 9 T hS kr kr kr (by rfl) kr hH kr h159 kr kr kr (fun cs h=>yS h) ?_
      intro acT a h161 kV hS
      have KS:=Qf
      rw [← kV] at KS
      clear kV
      refine gu T 10 hS kr kr kr (by rfl) kr hH kr h161 KS rfl kr ?_
      intro v162 a hv hS
      cases hv
      refine tke T [11,12,13] [8] hS hH #[true,true,true,true,true,true,true,true,true,true,true,true,true,true,false,false,false,false,false,false,false,false,false,false,false,false,false,false,false,false,false,false] 18 [31,33,34,36,37,38,39] [(42,B (decide (((gi l_ aG).aN)≤((gi l_ (wR (aG - 1))).aN))))] fun a hS=>?_
      rcases bft (decide (((gi l_ aG).aN)≤((gi l_ (wR (aG - 1))).aN))) with hb | hb
      ·replace hS:=hS.lit (t:=42) kr hb
       replace hm:=hm.1 hb
       refine tke T [14,15,16,17,18,19,20,21,22,23,24,25,26,27,28,29,30,31] [8] hS hH (tts 32) 0 [42] [(60,B true)] fun a hS=>(bn kr ?_)
       replace hS:=hS.sle [] []
       exact ⟨Z,_,true,hm,hS.sl _,hO,h110,h112,h114,h115⟩
      replace hS:=hS.lit (t:=42) kr hb
      replace hm:=hm.2 hb
      refine tke T [14,15,16] [8] hS hH #[true,true,true,true,true,true,true,true,true,true,true,true,true,true,true,true,true,false,false,false,false,false,false,false,false,false,false,false,false,false,false,false] 15 [] [(43,V (.map (some ij))),(45,I ((gi l_ aG).aN))] fun a hS=>(only 17 kr (by rfl) (pB kI tI false (zv:=ii 0) (z:=0) ((gi l_ aG).aN) hS kr kr kr kr Tryz.underlying192 Tryz.underlying3 kr rfl h112 ?_))
      intro v163 a hv hS
      replace hv:tI.R _ _ [v163] _:=hv
      cases hv
      refine cm (br.of hS (bks:=[8]) kr hD) ?_
      intro hH
      refine tke T [18,19,20] [8] hS hH #[true,true,true,true,true,true,true,true,true,true,true,true,true,true,true,true,true,true,true,true,true,false,false,false,false,false,false,false,false,false,false,false] 11 [42,43,45,46] [(49,B (decide (((cd bO ((gi l_ aG).aN)).getD 0) > 0)))] fun a hS=>?_
      rcases bft (decide (((cd bO ((gi l_ aG).aN)).getD 0) > 0)) with hb | hb
      ·replace hS:=hS.lit (t:=49) kr hb
       replace hm:=hm.1 hb
       refine tke T [21,22,23,24,25,26,27,28,29,30,31] [8] hS hH (tts 32) 0 [49] [(60,B true)] fun a hS=>(bn kr ?_)
       replace hS:=hS.sle [] []
       exact ⟨Z,_,true,hm,hS.sl _,hO,h110,h112,h114,h115⟩
      replace hS:=hS.lit (t:=49) kr hb
      replace hm:=hm.2 hb
      refine tke T [21,22,23,24] [8] hS hH #[true,true,true,true,true,true,true,true,true,true,true,true,true,true,true,true,true,true,true,true,true,true,true,true,true,false,false,false,false,false,false,false] 7 [] [(53,B (decide (((gi l_ aG).End)≥0)))] fun a hS=>?_
      rcases bft (decide (((gi l_ aG).End)≥0)) with hb | hb
      ·replace hS:=hS.lit (t:=53) kr hb
       replace hm:=hm.1 hb
       refine tke T [25,26,27] [8] hS hH #[true,true,true,true,true,true,true,true,true,true,true,true,true,true,true,true,true,true,true,true,true,true,true,true,true,true,true,true,false,false,false,false] 4 [] [(54,V (.map (some ij))),(56,I ((gi l_ aG).End))] fun a hS=>(only 28 kr (by rfl) (pB kI tI false (zv:=ii 0) (z:=0) ((gi l_ aG).End) hS kr kr kr kr Tryz.underlying192 Tryz.underlying3 kr rfl h112 ?_))
       intro v164 a hv hS
       replace hv:tI.R _ _ [v164] _:=hv
       cases hv
       refine cm (br.of hS (bks:=[8]) kr hD) ?_
       intro hH
       refine tke T [29,30,31] [8] hS hH (tts 32) 0 [49,53,54,56,57] [(60,B (decide (((cd bO ((gi l_ aG).End)).getD 0) > 0)))] fun a hS=>(bn kr ?_)
       replace hS:=hS.sle [] []
       exact ⟨Z,_,decide (((cd bO ((gi l_ aG).End)).getD 0) > 0),hm,hS.sl _,hO,h110,h112,h114,h115⟩
      replace hS:=hS.lit (t:=53) kr hb
      replace hm:=hm.2 hb
      refine tke T [25,26,27,28,29,30,31] [8] hS hH (tts 32) 0 [49,53] [(60,B false)] fun a hS=>(bn kr ?_)
      replace hS:=hS.sle [] []
      exact ⟨Z,_,false,hm,hS.sl _,hO,h110,h112,h114,h115⟩
     replace hS:=hS.lit (t:=31) kr hb
     replace hm:=hm.2 hb
     refine tke T [3,5,6,4,7,8,9,10,11,12,13,14,15,16] [8] hS hH #[true,true,true,true,true,true,true,true,true,true,true,true,true,true,true,true,true,false,false,false,false,false,false,false,false,false,false,false,false,false,false,false] 15 [31] [(42,B false),(43,V (.map (some ij))),(45,I ((gi l_ aG).aN))] fun a hS=>(only 17 kr (by rfl) (pB kI tI false (zv:=ii 0) (z:=0) ((gi l_ aG).aN) hS kr kr kr kr Tryz.underlying192 Tryz.underlying3 kr rfl h112 ?_))
     intro v165 a hv hS
     replace hv:tI.R _ _ [v165] _:=hv
     cases hv
     refine cm (br.of hS (bks:=[8]) kr hD) ?_
     intro hH
     refine tke T [18,19,20] [8] hS hH #[true,true,true,true,true,true,true,true,true,true,true,true,true,true,true,true,true,true,true,true,true,false,false,false,false,false,false,false,false,false,false,false] 11 [42,43,45,46] [(49,B (decide (((cd bO ((gi l_ aG).aN)).getD 0) > 0)))] fun a hS=>?_
     rcases bft (decide (((cd bO ((gi l_ aG).aN)).getD 0) > 0)) with hb | hb
     ·replace hS:=hS.lit (t:=49) kr hb
      replace hm:=hm.1 hb
      refine tke T [21,22,23,24,25,26,27,28,29,30,31] [8] hS hH (tts 32) 0 [49] [(60,B true)] fun a hS=>(bn kr ?_)
      replace hS:=hS.sle [] []
      exact ⟨Z,_,true,hm,hS.sl _,hO,h110,h112,h114,h115⟩
     replace hS:=hS.lit (t:=49) kr hb
     replace hm:=hm.2 hb
     refine tke T [21,22,23,24] [8] hS hH #[true,true,true,true,true,true,true,true,true,true,true,true,true,true,true,true,true,true,true,true,true,true,true,true,true,false,false,false,false,false,false,false] 7 [] [(53,B (decide (((gi l_ aG).End)≥0)))] fun a hS=>?_
     rcases bft (decide (((gi l_ aG).End)≥0)) with hb | hb
     ·replace hS:=hS.lit (t:=53) kr hb
      replace hm:=hm.1 hb
      refine tke T [25,26,27] [8] hS hH #[true,true,true,true,true,true,true,true,true,true,true,true,true,true,true,true,true,true,true,true,true,true,true,true,true,true,true,true,false,false,false,false] 4 [] [(54,V (.map (some ij))),(56,I ((gi l_ aG).End))] fun a hS=>(only 28 kr (by rfl) (pB kI tI false (zv:=ii 0) (z:=0) ((gi l_ aG).End) hS kr kr kr kr Tryz.underlying192 Tryz.underlying3 kr rfl h112 ?_))
      intro v166 a hv hS
      replace hv:tI.R _ _ [v166] _:=hv
      cases hv
      refine cm (br.of hS (bks:=[8]) kr hD) ?_
      intro hH
      refine tke T [29,30,31] [8] hS hH (tts 32) 0 [49,53,54,56,57] [(60,B (decide (((cd bO ((gi l_ aG).End)).getD 0) > 0)))] fun a hS=>(bn kr ?_)
      replace hS:=hS.sle [] []
      exact ⟨Z,_,decide (((cd bO ((gi l_ aG).End)).getD 0) > 0),hm,hS.sl _,hO,h110,h112,h114,h115⟩
     replace hS:=hS.lit (t:=53) kr hb
     replace hm:=hm.2 hb
     refine tke T [25,26,27,28,29,30,31] [8] hS hH (tts 32) 0 [49,53] [(60,B false)] fun a hS=>(bn kr ?_)
     replace hS:=hS.sle [] []
     exact ⟨Z,_,false,hm,hS.sl _,hO,h110,h112,h114,h115⟩
    rintro a OB ⟨Z,NS,iU,hm,hS,hO,h129,h130,h131,h132⟩
    unfold VC56_J3 at hm
    refine aC hS (b:=iU) kr (fun hb=>?_) fun hb=>?_
    ·replace hm:=hm.1 hb
     refine rP T hS ⟨[(2,I aG),(3,I 32)],[]⟩ fun a hS=>(aR ?_)
     exact fin T hS hO (fun c=>c) rfl (r:=[ii aG,ii 32]) kr (fun X' hM hC=>⟨_,hm,rfl⟩)
    replace hm:=hm.2 hb
    refine aI (a8 ?_)
    refine bk (oPe T hS 3 [60] [(63,V (.map (some jU))),(65,I ((gi l_ aG).Prc))] fun a hS=>?_)
    refine op1 (LW kI ar true (zv:=.agg #[ii 0,ii 0,ii 0,ii 0,ii 0]) (z:=(⟨0,0,0,0,0⟩:ae)) ((gi l_ aG).Prc) hS kr kr kr kr Tryz.underlying207 Tryz.underlying3 kr ⟨_,rfl,rfl⟩ h131 ?_)
    intro v134 a hv hS
    obtain ⟨_,rfl,hv⟩:=hv
    cases hv
    refine eM T hS ⟨[(0,Sl a1 l_ c1),(4,V (.map (some ij))),(5,V (.map (some jU))),(6,I aG),(7,Pt 8 0),(9,Pt 10 0),(10,B ((cd bw ((gi l_ aG).Prc)).isSome)),(16,Sl a1 l_ c1),(17,I (lN l_)),(18,I aG)],[(8,(91,[I ((gi l_ aG).Prc),I ((gi l_ aG).Kind),I ((gi l_ aG).aN),I ((gi l_ aG).End),I ((gi l_ aG).Result)])),(10,(91,[I (((cd bw ((gi l_ aG).Prc)).getD (⟨0,0,0,0,0⟩:ae)).Prc),I (((cd bw ((gi l_ aG).Prc)).getD (⟨0,0,0,0,0⟩:ae)).Kind),I (((cd bw ((gi l_ aG).Prc)).getD (⟨0,0,0,0,0⟩:ae)).aN),I (((cd bw ((gi l_ aG).Prc)).getD (⟨0,0,0,0,0⟩:ae)).End),I (((cd bw ((gi l_ aG).Prc)).getD (⟨0,0,0,0,0⟩:ae)).Result)]))]⟩ fun Z a Cw D1 hS hE hr=>?_
    have ⟨hO,h129,h130,h131,h132⟩:=e5e hE hO.m2 h129.m1 h130.m2 h131.m2 h132.m1
    clear hE hr
    refine cg (fun a w=>∃ Z X,∃ (h8:Bool),VC56_J4 l_ Q I1 μ1 bO bw aG h8/\St Tryz.f56.ntmps ⟨[(0,Sl a1 l_ c1),(4,V (.map (some ij))),(5,V (.map (some jU))),(6,I aG),(7,Pt 8 0),(16,Sl a1 l_ c1),(17,I (lN l_)),(18,I aG),(75,B h8)],[(8,(91,[I ((gi l_ aG).Prc),I ((gi l_ aG).Kind),I ((gi l_ aG).aN),I ((gi l_ aG).End),I ((gi l_ aG).Result)]))]⟩ Z a w X/\Old w0 X0 w X/\RS ar w X a1 l_ c1/\OM kI tI false w X 1015 ij bO/\OM kI ar true w X 1016 jU bw/\RS ar w X a1 l_ c1) ?_ ?_
    ·refine region (oPe T hS 2 [10] [(70,B ((cd bw ((gi l_ aG).Prc)).isSome))] fun a hS=>?_)
     rcases bft ((cd bw ((gi l_ aG).Prc)).isSome) with hb | hb
     ·replace hS:=hS.lit (t:=70) kr hb
      replace hm:=hm.1 hb
      refine oP T hS 2 ⟨[(0,Sl a1 l_ c1),(4,V (.map (some ij))),(5,V (.map (some jU))),(6,I aG),(7,Pt 8 0),(16,Sl a1 l_ c1),(17,I (lN l_)),(18,I aG),(70,B true),(71,V (.agg #[ii (((cd bw ((gi l_ aG).Prc)).getD (⟨0,0,0,0,0⟩:ae)).Prc),ii (((cd bw ((gi l_ aG).Prc)).getD (⟨0,0,0,0,0⟩:ae)).Kind),ii (((cd bw ((gi l_ aG).Prc)).getD (⟨0,0,0,0,0⟩:ae)).aN),ii (((cd bw ((gi l_ aG).Prc)).getD (⟨0,0,0,0,0⟩:ae)).End),ii (((cd bw ((gi l_ aG).Prc)).getD (⟨0,0,0,0,0⟩:ae)).Result)])),(72,V (.agg #[ii ((gi l_ aG).Prc),ii ((gi l_ aG).Kind),ii ((gi l_ aG).aN),ii ((gi l_ aG).End),ii ((gi l_ aG).Result)]))],[(8,(91,[I ((gi l_ aG).Prc),I ((gi l_ aG).Kind),I ((gi l_ aG).aN),I ((gi l_ aG).End),I ((gi l_ aG).Result)]))]⟩ fun a hS=>(op1 (call hS kr kr hb67 kr (fun _ _=>rfl) (L4 _ _ ((cd bw ((gi l_ aG).Prc)).getD (⟨0,0,0,0,0⟩:ae)) (gi l_ aG)) ?_))
      intro v148 a HM Hh hE hp hS
      have ⟨hO,h129,h130,h131,h132⟩:=e5e hE hO.m2 h129.m1 h130.m2 h131.m2 h132.m1
      generalize hr:bG ((cd bw ((gi l_ aG).Prc)).getD (⟨0,0,0,0,0⟩:ae)) (gi l_ aG)=fQ at hp
      replace hm:=hm fQ hr
      subst hp
      refine ePe T hS [70,71,72,73] [(75,B (!fQ))] fun a hS=>?_
      exact ⟨Z,_,(!fQ),hm,hS.sl _,hO,h129,h130,h131,h132⟩
     replace hS:=hS.lit (t:=70) kr hb
     replace hm:=hm.2 hb
     refine eP T hS ⟨[(0,Sl a1 l_ c1),(4,V (.map (some ij))),(5,V (.map (some jU))),(6,I aG),(7,Pt 8 0),(16,Sl a1 l_ c1),(17,I (lN l_)),(18,I aG),(75,B false)],[(8,(91,[I ((gi l_ aG).Prc),I ((gi l_ aG).Kind),I ((gi l_ aG).aN),I ((gi l_ aG).End),I ((gi l_ aG).Result)]))]⟩ fun a hS=>?_
     exact ⟨Z,_,false,hm,hS.sl _,hO,h129,h130,h131,h132⟩
    rintro a Lq ⟨Z,NW,h8,hm,hS,hO,h135,h136,h137,h138⟩
    unfold VC56_J4 at hm
    refine aC hS (b:=h8) kr (fun hb=>?_) fun hb=>?_
    ·replace hm:=hm.1 hb
     refine rP T hS ⟨[(2,I aG),(3,I 33)],[]⟩ fun a hS=>(aR ?_)
     exact fin T hS hO (fun c=>c) rfl (r:=[ii aG,ii 33]) kr (fun X' hM hC=>⟨_,hm,rfl⟩)
    replace hm:=hm.2 hb
    refine aI (bk ?_)
    refine oPe T hS 3 [6,75] [(77,V (.map (some ij))),(79,I ((gi l_ aG).aN))] fun a hS=>(op1 (pB kI tI false (zv:=ii 0) (z:=0) ((gi l_ aG).aN) hS kr kr kr kr Tryz.underlying192 Tryz.underlying3 kr rfl h136 ?_))
    intro v140 a hv hS
    replace hv:tI.R _ _ [v140] _:=hv
    cases hv
    refine oPe T hS 1 [80] [(81,I (wR (((cd bO ((gi l_ aG).aN)).getD 0)+1)))] fun a hS=>(op1 (Ip kI tI false (v:=I (wR (((cd bO ((gi l_ aG).aN)).getD 0)+1))) (u:=wR (((cd bO ((gi l_ aG).aN)).getD 0)+1)) ((gi l_ aG).aN) hS kr kr kr kr Tryz.underlying192 Tryz.underlying3 kr h136 rfl ?_))
    intro a Lt hE h142 hS
    clear h136
    have ⟨hO,h135,h137,h138⟩:=e4e hE hO.m2 h135.m1 h137.m2 h138.m1
    refine gM (bk ?_)
    refine oPe T hS 4 [] [(82,V (.map (some jU))),(84,I ((gi l_ aG).Prc)),(85,V (.agg #[ii ((gi l_ aG).Prc),ii ((gi l_ aG).Kind),ii ((gi l_ aG).aN),ii ((gi l_ aG).End),ii ((gi l_ aG).Result)]))] fun a hS=>(op1 (Ip kI ar true (v:=V (.agg #[ii ((gi l_ aG).Prc),ii ((gi l_ aG).Kind),ii ((gi l_ aG).aN),ii ((gi l_ aG).End),ii ((gi l_ aG).Result)])) (u:=(gi l_ aG)) ((gi l_ aG).Prc) hS kr kr kr kr Tryz.underlying207 Tryz.underlying3 kr h137 ⟨_,rfl,rfl⟩ ?_))
    intro a OH hE h144 hS
    clear h137
    have ⟨hO,h135,h138,h142⟩:=e4e hE hO.m2 h135.m1 h138.m1 h142.m2
    refine gM (rPe T hS [] [(88,B (decide (((gi l_ aG).End)≥0)))] fun a hS=>?_)
    refine aC hS (b:=decide (((gi l_ aG).End)≥0)) kr (fun hb=>?_) fun hb=>?_
    ·replace hm:=hm.1 hb
     refine region (oP T hS 3 ⟨[(0,Sl a1 l_ c1),(4,V (.map (some ij))),(5,V (.map (some jU))),(16,Sl a1 l_ c1),(17,I (lN l_)),(18,I aG),(89,V (.map (some ij))),(91,I ((gi l_ aG).End))],[]⟩ fun a hS=>?_)
     refine op1 (pB kI tI false (zv:=ii 0) (z:=0) ((gi l_ aG).End) hS kr kr kr kr Tryz.underlying192 Tryz.underlying3 kr rfl h142 ?_)
     intro v145 a hv hS
     replace hv:tI.R _ _ [v145] _:=hv
     cases hv
     refine oPe T hS 1 [92] [(93,I (wR (((cd (gb bO ((gi l_ aG).aN) (wR (((cd bO ((gi l_ aG).aN)).getD 0)+1))) ((gi l_ aG).End)).getD 0)+1)))] fun a hS=>(op1 (Ip kI tI false (v:=I (wR (((cd (gb bO ((gi l_ aG).aN) (wR (((cd bO ((gi l_ aG).aN)).getD 0)+1))) ((gi l_ aG).End)).getD 0)+1))) (u:=wR (((cd (gb bO ((gi l_ aG).aN) (wR (((cd bO ((gi l_ aG).aN)).getD 0)+1))) ((gi l_ aG).End)).getD 0)+1)) ((gi l_ aG).End) hS kr kr kr kr Tryz.underlying192 Tryz.underlying3 kr h142 rfl ?_))
     intro a EB hE h147 hS
     clear h142
     have ⟨hO,h135,h138,h144⟩:=e4e hE hO.m2 h135.m1 h138.m1 h144.m2
     refine gM ?_
     exact ⟨Z,_,gb (gb bO ((gi l_ aG).aN) (wR (((cd bO ((gi l_ aG).aN)).getD 0)+1))) ((gi l_ aG).End) (wR (((cd (gb bO ((gi l_ aG).aN) (wR (((cd bO ((gi l_ aG).aN)).getD 0)+1))) ((gi l_ aG).End)).getD 0)+1)),hm,hS.sl _,hO,h135,h147,h144,h138⟩
    replace hm:=hm.2 hb
    refine aI ?_
    exact ⟨Z,_,gb bO ((gi l_ aG).aN) (wR (((cd bO ((gi l_ aG).aN)).getD 0)+1)),hm,hS.sl _,hO,h135,h142,h144,h138⟩
   rintro a Oy ⟨Z,JL,dM,hm,hS,hO,h117,h119,h120,h121⟩
   unfold VC56_J2 at hm
   refine region (ePe T hS [] [(18,I (wR (aG+1)))] fun a hS=>?_)
   exact ⟨⟨dM,gb bw ((gi l_ aG).Prc) (gi l_ aG),wR (aG+1)⟩,⟨Z,_,hm.1,hS.sl _,hO,h117,h119,h120,h121⟩,hm.2⟩
  replace hm:=hm.2 hb
  refine cl (by rfl) ?_
  exact ⟨Z,_,hm,hS.sl _,hO,h110⟩
 rintro a Ow ⟨Z,JK,hm,hS,hO,h109⟩
 unfold VC56_J1 at hm
 refine rPe T hS [0] [(2,I (lN l_)),(3,I 0)] fun a hS=>(aR ?_)
 exact fin T hS hO (fun c=>c) rfl (r:=[ii (lN l_),ii 0]) kr (fun X' hM hC=>⟨_,hm,rfl⟩)
theorem C56 (Mu:S115) (L4:S67) (v:∀ (l_:List ae),VC56 l_ (fun r=>r=bp l_)):S56:=fun w X l_ a1 c1 h1=>mo1 (W56 Mu L4 w X l_ a1 c1 _ (v l_) h1)
theorem W22 (L4:S67) (w0) (X0) (l_:List ae) (a1) (c1) (Q:(List (Int × Int))->Prop) (hm:VC22 l_ Q) (h1:RS ar w0 X0 a1 l_ c1) :
  rt 22 #[.slice a1 l_.length c1] aB w0 X0 (fun w X' v=>∃ r,Q r/\∃ dg de,v=.slice dg r.length de/\RS tP2 w X' dg r de):=by
 unfold VC22 at hm
 replace hm:=hm (h1.sm kr)
 refine enter Tryz.func22 rfl (vals:=[.slice a1 l_.length c1]) kr ?_
 intro Z a hS hO hM
 replace h1:=h1.m0 hM
 refine rPe T hS [] [] fun a hS=>(rPe T hS [] [(3,V (.slice none 0 0))] fun a hS=>?_)
 refine cg (fun a w=>∃ Z X,∃ (dk:List (Int × Int)) (jx:Option Addr) (ju:Nat),VC22_J1 Q dk/\St Tryz.f22.ntmps ⟨[(3,Sl jx dk ju)],[]⟩ Z a w X/\Old w0 X0 w X/\OS tP2 142 w X 1003 jx dk ju) ?_ ?_
 ·refine rPe T hS [] [(8,Sl a1 l_ c1),(9,I (lN l_)),(10,I 0)] fun a hS=>(aH ?_)
  obtain ⟨I1,μ1,cC,hm⟩:=hm
  refine cu (σ:=(List (Int × Int)) × Int) (fun s a w=>∃ Z X iQ iP,I1 s.1 s.2/\St Tryz.f22.ntmps ⟨[(0,Sl a1 l_ c1),(3,Sl iQ s.1 iP),(8,Sl a1 l_ c1),(9,I (lN l_)),(10,I s.2)],[]⟩ Z a w X/\Old w0 X0 w X/\RS ar w X a1 l_ c1/\OS tP2 142 w X 1003 iQ s.1 iP/\RS ar w X a1 l_ c1) (fun s=>μ1 s.1 s.2) (⟨[],0⟩) ?_ ?_
  ·exact ⟨Z,_,none,0,cC,hS.sl _,hO,h1,(OS.nil _ _ _ _ _),h1⟩
  rintro ⟨fJ,bw⟩ a OD ⟨Z,AL,iQ,iP,hI,hS,hO,h107,h111,h112⟩
  replace hm:=hm fJ bw hI
  clear hI cC
  refine rPe T hS [] [(11,B (decide (bw < (lN l_))))] fun a hS=>(a8 ?_)
  refine aC hS (b:=decide (bw < (lN l_))) kr (fun hb=>?_) fun hb=>?_
  ·replace hm:=hm.1 hb
   refine aI (cg (fun a w=>∃ Z X,∃ (ba:List (Int × Int)) (dT:Option Addr) (dS:Nat),VC22_J2 I1 μ1 fJ bw ba/\St Tryz.f22.ntmps ⟨[(0,Sl a1 l_ c1),(3,Sl dT ba dS),(8,Sl a1 l_ c1),(9,I (lN l_)),(10,I bw)],[]⟩ Z a w X/\Old w0 X0 w X/\RS ar w X a1 l_ c1/\OS tP2 142 w X 1003 dT ba dS/\RS ar w X a1 l_ c1) ?_ ?_)
   ·refine aH (bk ?_)
    refine oPe T hS 1 [11] [(12,I bw)] fun a hS=>?_
    obtain ⟨hq,hm⟩:=hm
    refine op1 (index (e:=91) (k:=.i64) T hS kr kr kr kr h112 kr kr hq.1 hq.2 ?_)
    intro N7 a h121 hS
    refine op1 (lJ T hS kr kr kr h121 kr kr ?_)
    intro v122 a hv hS
    subst hv
    refine eM T hS ⟨[(0,Sl a1 l_ c1),(3,Sl iQ fJ iP),(4,I bw),(5,Pt 6 0),(8,Sl a1 l_ c1),(9,I (lN l_)),(10,I bw)],[(6,(91,[I ((gi l_ bw).Prc),I ((gi l_ bw).Kind),I ((gi l_ bw).aN),I ((gi l_ bw).End),I ((gi l_ bw).Result)]))]⟩ fun Z a Cv JM hS hE hr=>?_
    have ⟨hO,h107,h111,h112⟩:=e4e hE hO.m2 h107.m1 h111.m2 h112.m1
    clear hE hr
    refine rPe T hS [] [(15,Sl a1 l_ c1),(16,I (lN l_)),(17,I 0)] fun a hS=>(aH ?_)
    obtain ⟨I2,μ2,cC,hm⟩:=hm
    refine cu (σ:=(List (Int × Int)) × Int) (fun s a w=>∃ Z X ly lu,I2 s.1 s.2/\St Tryz.f22.ntmps ⟨[(0,Sl a1 l_ c1),(3,Sl ly s.1 lu),(4,I bw),(5,Pt 6 0),(8,Sl a1 l_ c1),(9,I (lN l_)),(10,I bw),(15,Sl a1 l_ c1),(16,I (lN l_)),(17,I s.2)],[(6,(91,[I ((gi l_ bw).Prc),I ((gi l_ bw).Kind),I ((gi l_ bw).aN),I ((gi l_ bw).End),I ((gi l_ bw).Result)]))]⟩ Z a w X/\Old w0 X0 w X/\RS ar w X a1 l_ c1/\OS tP2 142 w X 1003 ly s.1 lu/\RS ar w X a1 l_ c1/\RS ar w X a1 l_ c1) (fun s=>μ2 s.1 s.2) (⟨fJ,0⟩) ?_ ?_
    ·exact ⟨Z,_,iQ,iP,cC,hS.sl _,hO,h107,h111,h112,h107⟩
    rintro ⟨mO,eV⟩ a EA ⟨Z,JN,ly,lu,hI,hS,hO,h123,h127,h128,h129⟩
    replace hm:=hm mO eV hI
    clear hI cC
    refine rPe T hS [] [(18,B (decide (eV < (lN l_))))] fun a hS=>(a8 ?_)
    refine aC hS (b:=decide (eV < (lN l_))) kr (fun hb=>?_) fun hb=>?_
    ·replace hm:=hm.1 hb
     refine aI (cg (fun a w=>∃ Z X,∃ (Ew:List (Int × Int)) (JG:Option Addr) (Js:Nat),VC22_J3 I2 μ2 mO eV Ew/\St Tryz.f22.ntmps ⟨[(0,Sl a1 l_ c1),(3,Sl JG Ew Js),(4,I bw),(5,Pt 6 0),(8,Sl a1 l_ c1),(9,I (lN l_)),(10,I bw),(15,Sl a1 l_ c1),(16,I (lN l_)),(17,I eV)],[(6,(91,[I ((gi l_ bw).Prc),I ((gi l_ bw).Kind),I ((gi l_ bw).aN),I ((gi l_ bw).End),I ((gi l_ bw).Result)]))]⟩ Z a w X/\Old w0 X0 w X/\RS ar w X a1 l_ c1/\OS tP2 142 w X 1003 JG Ew Js/\RS ar w X a1 l_ c1/\RS ar w X a1 l_ c1) ?_ ?_)
     ·refine aH (bk ?_)
      refine oPe T hS 1 [18] [(19,I eV)] fun a hS=>?_
      obtain ⟨hq,hm⟩:=hm
      refine op1 (index (e:=91) (k:=.i64) T hS kr kr kr kr h129 kr kr hq.1 hq.2 ?_)
      intro ac5 a h139 hS
      refine op1 (lJ T hS kr kr kr h139 kr kr ?_)
      intro v140 a hv hS
      subst hv
      refine eM T hS ⟨[(0,Sl a1 l_ c1),(3,Sl ly mO lu),(4,I bw),(5,Pt 6 0),(6,I eV),(7,Pt 8 0),(8,Sl a1 l_ c1),(9,I (lN l_)),(10,I bw),(15,Sl a1 l_ c1),(16,I (lN l_)),(17,I eV)],[(6,(91,[I ((gi l_ bw).Prc),I ((gi l_ bw).Kind),I ((gi l_ bw).aN),I ((gi l_ bw).End),I ((gi l_ bw).Result)])),(8,(91,[I ((gi l_ eV).Prc),I ((gi l_ eV).Kind),I ((gi l_ eV).aN),I ((gi l_ eV).End),I ((gi l_ eV).Result)]))]⟩ fun Z a Cw D1 hS hE hr=>?_
      have ⟨hO,h123,h127,h128,h129⟩:=e5e hE hO.m2 h123.m1 h127.m2 h128.m1 h129.m1
      clear hE hr
      refine bk (oP T hS 2 ⟨[(0,Sl a1 l_ c1),(3,Sl ly mO lu),(4,I bw),(5,Pt 6 0),(6,I eV),(8,Sl a1 l_ c1),(9,I (lN l_)),(10,I bw),(15,Sl a1 l_ c1),(16,I (lN l_)),(17,I eV),(22,V (.agg #[ii ((gi l_ bw).Prc),ii ((gi l_ bw).Kind),ii ((gi l_ bw).aN),ii ((gi l_ bw).End),ii ((gi l_ bw).Result)])),(23,V (.agg #[ii ((gi l_ eV).Prc),ii ((gi l_ eV).Kind),ii ((gi l_ eV).aN),ii ((gi l_ eV).End),ii ((gi l_ eV).Result)]))],[(6,(91,[I ((gi l_ bw).Prc),I ((gi l_ bw).Kind),I ((gi l_ bw).aN),I ((gi l_ bw).End),I ((gi l_ bw).Result)]))]⟩ fun a hS=>?_)
      refine op1 (call hS kr kr hb67 kr (fun _ _=>rfl) (L4 _ _ (gi l_ bw) (gi l_ eV)) ?_)
      intro v141 a Ls RB hE hp hS
      have ⟨hO,h123,h127,h128,h129⟩:=e5e hE hO.m2 h123.m1 h127.m2 h128.m1 h129.m1
      generalize hr:bG (gi l_ bw) (gi l_ eV)=qt at hp
      replace hm:=hm qt hr
      subst hp
      refine gM (aC hS (b:=qt) kr (fun hb=>?_) fun hb=>?_)
      ·replace hm:=hm.1 hb
       refine region (oPe T hS 4 [6,24] [(25,Sl ly mO lu),(28,V (.agg #[ii bw,ii eV]))] fun a hS=>?_)
       refine op1 (lit (E:=142) (col:=0) (T:=tP2) (vals:=[.agg #[ii bw,ii eV]]) (ys:=[(bw,eV)]) T hS kr kr kr kr (by exact ⟨rfl,trivial⟩) rfl kr kr kr kr ?_)
       intro b145 a EB NX hE h148 hN hS
       clear hN
       have ⟨hO,h123,h127,h128,h129⟩:=e5e hE hO.m2 h123.m1 h127.m2 h128.m1 h129.m1
       replace h148:=h148.rs0
       obtain ⟨hq,hm⟩:=hm
       obtain ⟨news,hN⟩:=h148.src
       refine op1 (append (E:=142) (T:=tP2) (col:=1003) (xs:=mO) T hS kr kr kr kr h127 hN kr kr kr kr hq ?_)
       intro ui uf a HM Hh hE h151 hS
       clear hq hN
       clear h127
       have ⟨hO,h123,h128,h129,h148⟩:=e5e hE hO.m2 h123.m1 h128.m1 h129.m1 h148.m1
       refine ePe T hS [28,29,30] [(3,Sl ui (mO++[(bw,eV)]) uf)] fun a hS=>?_
       exact ⟨Z,_,mO++[(bw,eV)],ui,uf,hm,hS.sl _,hO,h123,h151,h128,h129⟩
      replace hm:=hm.2 hb
      refine aI ?_
      exact ⟨Z,_,mO,ly,lu,hm,hS.sl _,hO,h123,h127,h128,h129⟩
     rintro a HL ⟨Z,NV,Ew,JG,Js,hm,hS,hO,h131,h135,h136,h137⟩
     unfold VC22_J3 at hm
     refine region (ePe T hS [] [(17,I (wR (eV+1)))] fun a hS=>?_)
     exact ⟨⟨Ew,wR (eV+1)⟩,⟨Z,_,JG,Js,hm.1,hS.sl _,hO,h131,h135,h136,h137⟩,hm.2⟩
    replace hm:=hm.2 hb
    refine cl (by rfl) ?_
    exact ⟨Z,_,mO,ly,lu,hm,hS.sl _,hO,h123,h127,h128⟩
   rintro a yY ⟨Z,NT,ba,dT,dS,hm,hS,hO,h114,h118,h119⟩
   unfold VC22_J2 at hm
   refine region (ePe T hS [] [(10,I (wR (bw+1)))] fun a hS=>?_)
   exact ⟨⟨ba,wR (bw+1)⟩,⟨Z,_,dT,dS,hm.1,hS.sl _,hO,h114,h118,h119⟩,hm.2⟩
  replace hm:=hm.2 hb
  refine cl (by rfl) ?_
  exact ⟨Z,_,fJ,iQ,iP,hm,hS.sl _,hO,h111⟩
 rintro a Lp ⟨Z,Rv,dk,jx,ju,hm,hS,hO,h104⟩
 unfold VC22_J1 at hm
 refine rPe T hS [3] [(2,Sl jx dk ju)] fun a hS=>(aR ?_)
 obtain ⟨wX,hE,hF⟩:=h104.freeze (by decide)
 replace hS:=hS.ev hE (cq kr)
 replace hO:=hO.m2 hE
 have h106:=hF; clear hE hF
 exact fin T hS hO (fun c=>c) rfl (r:=[.slice jx dk.length ju]) kr (fun X' hM hC=>⟨dk,hm,jx,ju,rfl,h106.m0 hM⟩)
theorem C22 (L4:S67) (v:∀ (l_:List ae),gA l_->VC22 l_ (fun r=>r=bS l_)):S22:=fun w X l_ a1 c1 hp h1=>mo1 (W22 L4 w X l_ a1 c1 _ (v l_ hp) h1)
theorem W162 (w0) (X0) (l_:List ae) (a1) (c1) (Q:(List Int)->Prop) (hm:VC162 l_ Q) (h1:RS ar w0 X0 a1 l_ c1) :
  rt 162 #[.slice a1 l_.length c1] aB w0 X0 (fun w X' v=>∃ r,Q r/\∃ dg de,v=.slice dg r.length de/\RS tI w X' dg r de):=by
 unfold VC162 at hm
 replace hm:=hm (h1.sm kr)
 refine enter Tryz.func162 rfl (vals:=[.slice a1 l_.length c1]) kr ?_
 intro Z a hS hO hM
 replace h1:=h1.m0 hM
 refine rPe T hS [] [] fun a hS=>(rPe T hS [] [(3,V (.slice none 0 0))] fun a hS=>?_)
 refine cg (fun a w=>∃ Z X,∃ (dk:List Int) (jx:Option Addr) (ju:Nat),VC162_J1 Q dk/\St Tryz.f162.ntmps ⟨[(3,Sl jx dk ju)],[]⟩ Z a w X/\Old w0 X0 w X/\OS tI 3 w X 1003 jx dk ju) ?_ ?_
 ·refine rPe T hS [0] [(6,Sl a1 l_ c1),(7,I (lN l_)),(8,I 0)] fun a hS=>(aH ?_)
  obtain ⟨I1,μ1,cC,hm⟩:=hm
  refine cu (σ:=(List Int) × Int) (fun s a w=>∃ Z X lQ lP,I1 s.1 s.2/\St Tryz.f162.ntmps ⟨[(3,Sl lQ s.1 lP),(6,Sl a1 l_ c1),(7,I (lN l_)),(8,I s.2)],[]⟩ Z a w X/\Old w0 X0 w X/\OS tI 3 w X 1003 lQ s.1 lP/\RS ar w X a1 l_ c1) (fun s=>μ1 s.1 s.2) (⟨[],0⟩) ?_ ?_
  ·exact ⟨Z,_,none,0,cC,hS.sl _,hO,(OS.nil _ _ _ _ _),h1⟩
  rintro ⟨dG,e9⟩ a Lu ⟨Z,N0,lQ,lP,hI,hS,hO,h110,h111⟩
  replace hm:=hm dG e9 hI
  clear hI cC
  refine rPe T hS [] [(9,B (decide (e9 < (lN l_))))] fun a hS=>(a8 ?_)
  refine aC hS (b:=decide (e9 < (lN l_))) kr (fun hb=>?_) fun hb=>?_
  ·replace hm:=hm.1 hb
   refine aI (cg (fun a w=>∃ Z X,∃ (bw:List Int) (jM:Option Addr) (jL:Nat),VC162_J2 I1 μ1 dG e9 bw/\St Tryz.f162.ntmps ⟨[(3,Sl jM bw jL),(6,Sl a1 l_ c1),(7,I (lN l_)),(8,I e9)],[]⟩ Z a w X/\Old w0 X0 w X/\OS tI 3 w X 1003 jM bw jL/\RS ar w X a1 l_ c1) ?_ ?_)
   ·refine aH (bk ?_)
    refine oPe T hS 1 [9] [(10,I e9)] fun a hS=>?_
    obtain ⟨hq,hm⟩:=hm
    refine op1 (index (e:=91) (k:=.i64) T hS kr kr kr kr h111 kr kr hq.1 hq.2 ?_)
    intro RM a h119 hS
    refine op1 (lJ T hS kr kr kr h119 kr kr ?_)
    intro v120 a hv hS
    subst hv
    refine eM T hS ⟨[(3,Sl lQ dG lP),(4,I e9),(5,Pt 6 0),(6,Sl a1 l_ c1),(7,I (lN l_)),(8,I e9)],[(6,(91,[I ((gi l_ e9).Prc),I ((gi l_ e9).Kind),I ((gi l_ e9).aN),I ((gi l_ e9).End),I ((gi l_ e9).Result)]))]⟩ fun Z a SX RC hS hE hr=>?_
    have ⟨hO,h110,h111⟩:=e3e hE hO.m2 h110.m2 h111.m1
    clear hE hr
    refine rP T hS ⟨[(3,Sl lQ dG lP),(4,I e9),(6,Sl a1 l_ c1),(7,I (lN l_)),(8,I e9),(15,B (((gi l_ e9).End) == (-1)))],[]⟩ fun a hS=>(aC hS (b:=(((gi l_ e9).End) == (-1))) kr (fun hb=>?_) fun hb=>?_)
    ·replace hm:=hm.1 hb
     refine region (oPe T hS 2 [4,15] [(16,Sl lQ dG lP),(17,I e9)] fun a hS=>?_)
     refine op1 (lit (E:=3) (col:=0) (T:=tI) (vals:=[ii e9]) (ys:=[e9]) T hS kr kr kr kr (by exact ⟨rfl,trivial⟩) rfl kr kr kr kr ?_)
     intro b121 a Lx N3 hE h124 hN hS
     clear hN
     have ⟨hO,h110,h111⟩:=e3e hE hO.m2 h110.m2 h111.m1
     replace h124:=h124.rs0
     obtain ⟨hq,hm⟩:=hm
     obtain ⟨news,hN⟩:=h124.src
     refine op1 (append (E:=3) (T:=tI) (col:=1003) (xs:=dG) T hS kr kr kr kr h110 hN kr kr kr kr hq ?_)
     intro gE gC a CA AO hE h127 hS
     clear hq hN
     clear h110
     have ⟨hO,h111,h124⟩:=e3e hE hO.m2 h111.m1 h124.m1
     refine ePe T hS [17,18,19] [(3,Sl gE (dG++[e9]) gC)] fun a hS=>?_
     exact ⟨Z,_,dG++[e9],gE,gC,hm,hS.sl _,hO,h127,h111⟩
    replace hm:=hm.2 hb
    refine aI ?_
    exact ⟨Z,_,dG,lQ,lP,hm,hS.sl _,hO,h110,h111⟩
   rintro a Lv ⟨Z,JP,bw,jM,jL,hm,hS,hO,h116,h117⟩
   unfold VC162_J2 at hm
   refine region (ePe T hS [] [(8,I (wR (e9+1)))] fun a hS=>?_)
   exact ⟨⟨bw,wR (e9+1)⟩,⟨Z,_,jM,jL,hm.1,hS.sl _,hO,h116,h117⟩,hm.2⟩
  replace hm:=hm.2 hb
  refine cl (by rfl) ?_
  exact ⟨Z,_,dG,lQ,lP,hm,hS.sl _,hO,h110⟩
 rintro a OI ⟨Z,NZ,dk,jx,ju,hm,hS,hO,h104⟩
 unfold VC162_J1 at hm
 refine rPe T hS [3] [(2,Sl jx dk ju)] fun a hS=>(aR ?_)
 obtain ⟨wX,hE,hF⟩:=h104.freeze (by decide)
 replace hS:=hS.ev hE (cq kr)
 replace hO:=hO.m2 hE
 have h106:=hF; clear hE hF
 exact fin T hS hO (fun c=>c) rfl (r:=[.slice jx dk.length ju]) kr (fun X' hM hC=>⟨dk,hm,jx,ju,rfl,h106.m0 hM⟩)
theorem C162 (v:∀ (l_:List ae),gA l_->VC162 l_ (fun r=>r=gn l_)):S162:=fun w X l_ a1 c1 hp h1=>mo1 (W162 w X l_ a1 c1 _ (v l_ hp) h1)
theorem W59 (w0) (X0) (s_:aa) (Q:Int->Prop) (hm:VC59 s_ Q) :
  rt 59 #[.agg #[ii s_.Ops,ii s_.ab]] aB w0 X0 (fun w X' v=>∃ r,Q r/\v=ii r):=by
 unfold VC59 at hm
 refine enter Tryz.func59 rfl (vals:=[.agg #[ii s_.Ops,ii s_.ab]]) kr ?_
 intro Z a hS hO hM
 refine rM T hS ⟨[(1,Pt 2 0)],[(2,(61,[I s_.Ops,I s_.ab]))]⟩ fun Z a pa qg hS hE hr=>?_
 replace hO:=hO.m2 hE
 clear hE hr
 refine a8 (rP T hS ⟨[(20,B ((((decide (s_.Ops < 0)) || (decide (s_.Ops > 64))) || (decide (s_.ab < 1))) || (decide (s_.ab > 32))))],[]⟩ (sp:=[6,11,16]) fun a hS=>?_)
 refine aC hS (b:=((((decide (s_.Ops < 0)) || (decide (s_.Ops > 64))) || (decide (s_.ab < 1))) || (decide (s_.ab > 32)))) kr (fun hb=>?_) fun hb=>?_
 ·replace hm:=hm.1 hb
  refine rPe T hS [20] [(2,I 2)] fun a hS=>(aR ?_)
  exact fin T hS hO (fun c=>c) rfl (r:=[ii 2]) kr (fun X' hM hC=>⟨2,hm,rfl⟩)
 replace hm:=hm.2 hb
 refine aI (rPe T hS [20] [(2,I 0)] fun a hS=>?_)
 refine aR ?_
 exact fin T hS hO (fun c=>c) rfl (r:=[ii 0]) kr (fun X' hM hC=>⟨0,hm,rfl⟩)
theorem C59 (v:∀ (s_:aa),VC59 s_ (fun r=>r=ao s_)):S59:=fun w X s_=>mo1 (W59 w X s_ _ (v s_))
theorem W73 (w0) (X0) (s_:aa) (kind:Int) (Q:Int × Int × Int->Prop) (hm:VC73 s_ kind Q) :
  rt 73 #[.agg #[ii s_.Ops,ii s_.ab],ii kind] aB w0 X0 (fun w X' v=>∃ r,Q r/\v=.tuple #[ii r.1,ii r.2.1,ii r.2.2]):=by
 unfold VC73 at hm
 refine enter Tryz.func73 rfl (vals:=[.agg #[ii s_.Ops,ii s_.ab],ii kind]) kr ?_
 intro Z a hS hO hM
 refine rM T hS ⟨[(1,I kind),(2,Pt 3 0)],[(3,(61,[I s_.Ops,I s_.ab]))]⟩ fun Z a o8 oV hS hE hr=>?_
 replace hO:=hO.m2 hE
 clear hE hr
 refine a8 (rPe T hS [1] [(7,I kind)] fun a hS=>?_)
 refine aH (rPe T hS [] [(8,B (kind == 1))] fun a hS=>?_)
 refine aC hS (b:=(kind == 1)) kr (fun hb=>?_) fun hb=>?_
 ·replace hm:=hm.1 hb
  refine eT [3] mixed hS ?_
  intro pa qg hS hE hD hH
  replace hO:=hO.m2 hE
  refine tke T [0,2,4,1,3,5,6] [3] hS hH (tts 7) 0 [2] [(4,I 0),(5,I s_.Ops),(6,I s_.Ops)] fun a hS=>(bn kr ?_)
  replace hS:=hS.sl ⟨[(4,I 0),(5,I s_.Ops),(6,I s_.Ops)],[]⟩
  refine aR ?_
  exact fin T hS hO (fun c=>c) rfl (r:=[ii 0,ii s_.Ops,ii s_.Ops]) kr (fun X' hM hC=>⟨_,hm,rfl⟩)
 replace hm:=hm.2 hb
 refine rPe T hS [7,8] [(14,B (kind == 2))] fun a hS=>(aC hS (b:=(kind == 2)) kr (fun hb=>?_) fun hb=>?_)
 ·replace hm:=hm.1 hb
  refine eT [3] mixed hS ?_
  intro Ly N5 hS hE hD hH
  replace hO:=hO.m2 hE
  refine tke T [0,2,5,1,3,6,4,7,8,9] [3] hS hH (tts 10) 0 [2] [(4,I (wR (s_.Ops * s_.Ops))),(5,I 1),(6,I s_.Ops)] fun a hS=>(bn kr ?_)
  replace hS:=hS.sl ⟨[(4,I (wR (s_.Ops * s_.Ops))),(5,I 1),(6,I s_.Ops)],[]⟩
  refine aR ?_
  exact fin T hS hO (fun c=>c) rfl (r:=[ii (wR (s_.Ops * s_.Ops)),ii 1,ii s_.Ops]) kr (fun X' hM hC=>⟨_,hm,rfl⟩)
 replace hm:=hm.2 hb
 refine aI (eT [3] mixed hS ?_)
 intro qj oW hS hE hD hH
 replace hO:=hO.m2 hE
 refine tke T [0,2,5,8,10,1,3,6,9,11,4,12,7,13,14,15] [3] hS hH (tts 16) 0 [2] [(4,I (wR ((wR (s_.Ops * s_.Ops))+s_.Ops))),(5,I s_.ab),(6,I (wR (s_.Ops+1)))] fun a hS=>(bn kr ?_)
 replace hS:=hS.sl ⟨[(4,I (wR ((wR (s_.Ops * s_.Ops))+s_.Ops))),(5,I s_.ab),(6,I (wR (s_.Ops+1)))],[]⟩
 refine aR ?_
 exact fin T hS hO (fun c=>c) rfl (r:=[ii (wR ((wR (s_.Ops * s_.Ops))+s_.Ops)),ii s_.ab,ii (wR (s_.Ops+1))]) kr (fun X' hM hC=>⟨_,hm,rfl⟩)
theorem C73 (v:∀ (s_:aa) (kind:Int),VC73 s_ kind (fun r=>r=bN s_ kind)):S73:=fun w X s_ kind=>mo1 (W73 w X s_ kind _ (v s_ kind))
theorem W25 (mi:S59) (L0:S73) (w0) (X0) (s_:aa) (Q:Int->Prop) (hm:VC25 s_ Q) :
  rt 25 #[.agg #[ii s_.Ops,ii s_.ab]] aB w0 X0 (fun w X' v=>∃ r,Q r/\v=ii r):=by
 unfold VC25 at hm
 refine enter Tryz.func25 rfl (vals:=[.agg #[ii s_.Ops,ii s_.ab]]) kr ?_
 intro Z a hS hO hM
 refine rM T hS ⟨[(1,Pt 2 0)],[(2,(61,[I s_.Ops,I s_.ab]))]⟩ fun Z a sx um hS hE hr=>?_
 replace hO:=hO.m2 hE
 clear hE hr
 refine a8 (bk ?_)
 refine oPe T hS 1 [] [(6,V (.agg #[ii s_.Ops,ii s_.ab]))] fun a hS=>(op1 (call hS kr kr hb59 kr (fun _ _=>rfl) (mi _ _ s_) ?_))
 intro v101 a eI eN hE hp hS
 replace hO:=hO.m2 hE
 generalize hr:ao s_=al at hp
 replace hm:=hm al hr
 subst hp
 refine ePe T hS [6,7] [(8,B (al != 0))] fun a hS=>(aC hS (b:=(al != 0)) kr (fun hb=>?_) fun hb=>?_)
 ·replace hm:=hm.1 hb
  refine rP T hS ⟨[(2,I 0)],[]⟩ fun a hS=>(aR ?_)
  exact fin T hS hO (fun c=>c) rfl (r:=[ii 0]) kr (fun X' hM hC=>⟨0,hm,rfl⟩)
 replace hm:=hm.2 hb
 refine aI (bk ?_)
 refine oP T hS 1 ⟨[(10,V (.agg #[ii s_.Ops,ii s_.ab]))],[]⟩ fun a hS=>(op1 (call hS kr kr hb73 kr (fun _ _=>rfl) (L0 _ _ s_ 3) ?_))
 intro v105 a o9 qf hE hp hS
 replace hO:=hO.m2 hE
 generalize hr:bN s_ 3=bu at hp
 replace hm:=hm bu hr
 subst hp
 refine ePe T hS [10,11] [(3,I bu.1),(4,I bu.2.1),(5,I bu.2.2)] fun a hS=>(rPe T hS [3,4,5] [(2,I (wR (bu.1+(wR (bu.2.1 * bu.2.2)))))] fun a hS=>?_)
 refine aR ?_
 exact fin T hS hO (fun c=>c) rfl (r:=[ii (wR (bu.1+(wR (bu.2.1 * bu.2.2))))]) kr (fun X' hM hC=>⟨_,hm,rfl⟩)
theorem C25 (mi:S59) (L0:S73) (v:∀ (s_:aa),VC25 s_ (fun r=>r=aw s_)):S25:=fun w X s_=>mo1 (W25 mi L0 w X s_ _ (v s_))
theorem W65 (mi:S59) (L0:S73) (w0) (X0) (s_:aa) (n_:aW) (Q:Int->Prop) (hm:VC65 s_ n_ Q) :
  rt 65 #[.agg #[ii s_.Ops,ii s_.ab],.agg #[ii n_.Kind,ii n_.A,ii n_.B]] aB w0 X0 (fun w X' v=>∃ r,Q r/\v=ii r):=by
 unfold VC65 at hm
 refine enter Tryz.func65 rfl (vals:=[.agg #[ii s_.Ops,ii s_.ab],.agg #[ii n_.Kind,ii n_.A,ii n_.B]]) kr ?_
 intro Z a hS hO hM
 refine rM T hS ⟨[(2,Pt 3 0),(3,Pt 4 0)],[(3,(61,[I s_.Ops,I s_.ab])),(4,(137,[I n_.Kind,I n_.A,I n_.B]))]⟩ fun Z a sx um hS hE hr=>?_
 replace hO:=hO.m2 hE
 clear hE hr
 refine a8 (bk ?_)
 refine oPe T hS 1 [] [(9,V (.agg #[ii s_.Ops,ii s_.ab]))] fun a hS=>(op1 (call hS kr kr hb59 kr (fun _ _=>rfl) (mi _ _ s_) ?_))
 intro v101 a eI eN hE hp hS
 replace hO:=hO.m2 hE
 generalize hr:ao s_=al at hp
 replace hm:=hm al hr
 subst hp
 refine ePe T hS [9,10] [(21,B (((al != 0) || (decide (n_.Kind≤0))) || (decide (n_.Kind > 3))))] (sp:=[12,17]) fun a hS=>(aC hS (b:=(((al != 0) || (decide (n_.Kind≤0))) || (decide (n_.Kind > 3)))) kr (fun hb=>?_) fun hb=>?_)
 ·replace hm:=hm.1 hb
  refine rP T hS ⟨[(4,I 0)],[]⟩ fun a hS=>(aR ?_)
  exact fin T hS hO (fun c=>c) rfl (r:=[ii 0]) kr (fun X' hM hC=>⟨0,hm,rfl⟩)
 replace hm:=hm.2 hb
 refine aI (rP T hS ⟨[(3,Pt 4 0),(5,.f (.func 73) [.v (.agg #[ii s_.Ops,ii s_.ab])] [])],[(4,(137,[I n_.Kind,I n_.A,I n_.B]))]⟩ fun a hS=>?_)
 refine bk (oPe T hS 3 [5] [(25,.f (.func 73) [.v (.agg #[ii s_.Ops,ii s_.ab])] []),(27,I n_.Kind)] fun a hS=>?_)
 refine op1 (GR (fi:=[.v (.agg #[ii s_.Ops,ii s_.ab])]) (cp:=[]) hS kr kr hb73 kr kr (fun _ _=>rfl) (L0 _ _ s_ n_.Kind) ?_)
 intro v105 a o9 qf hE hp hS
 replace hO:=hO.m2 hE
 generalize hr:bN s_ n_.Kind=bu at hp
 replace hm:=hm bu hr
 subst hp
 refine ePe T hS [25,27,28] [(6,I bu.1),(7,I bu.2.1),(8,I bu.2.2)] fun a hS=>(a8 ?_)
 refine rPe T hS [8] [(51,B ((((decide (n_.A < 0)) || (decide (n_.A≥bu.2.2))) || (decide (n_.B < 0))) || (decide (n_.B≥bu.2.1))))] (sp:=[35,41,46]) fun a hS=>(aC hS (b:=((((decide (n_.A < 0)) || (decide (n_.A≥bu.2.2))) || (decide (n_.B < 0))) || (decide (n_.B≥bu.2.1)))) kr (fun hb=>?_) fun hb=>?_)
 ·replace hm:=hm.1 hb
  refine rP T hS ⟨[(4,I 0)],[]⟩ fun a hS=>(aR ?_)
  exact fin T hS hO (fun c=>c) rfl (r:=[ii 0]) kr (fun X' hM hC=>⟨0,hm,rfl⟩)
 replace hm:=hm.2 hb
 refine aI (rP T hS ⟨[(4,I (wR ((wR ((wR (bu.1+(wR (n_.A * bu.2.1))))+n_.B))+1)))],[]⟩ fun a hS=>?_)
 refine aR ?_
 exact fin T hS hO (fun c=>c) rfl (r:=[ii (wR ((wR ((wR (bu.1+(wR (n_.A * bu.2.1))))+n_.B))+1))]) kr (fun X' hM hC=>⟨_,hm,rfl⟩)
theorem C65 (mi:S59) (L0:S73) (v:∀ (s_:aa) (n_:aW),VC65 s_ n_ (fun r=>r=bd s_ n_)):S65:=fun w X s_ n_=>mo1 (W65 mi L0 w X s_ n_ _ (v s_ n_))
theorem W34 (FV:S55) (zT:S56) (w0) (X0) (o_:ah) (l_:List ae) (a1) (c1) (a2) (c2) (Q:aa->Prop) (hm:VC34 o_ l_ Q) (h1:RS aF w0 X0 a1 o_.Rows c1) (h2:RS ar w0 X0 a2 l_ c2) :
  rt 34 #[.agg #[ii o_.ab,ii o_.aP,ii o_.aU,.slice a1 o_.Rows.length c1],.slice a2 l_.length c2] aB w0 X0 (fun w X' v=>∃ r,Q r/\v=.agg #[ii r.Ops,ii r.ab]):=by
 unfold VC34 at hm
 replace hm:=hm (h1.sm kr)
 replace hm:=hm (h2.sm kr)
 refine enter Tryz.func34 rfl (vals:=[.agg #[ii o_.ab,ii o_.aP,ii o_.aU,.slice a1 o_.Rows.length c1],.slice a2 l_.length c2]) kr ?_
 intro Z a hS hO hM
 replace h1:=h1.m0 hM
 replace h2:=h2.m0 hM
 refine rM T hS ⟨[(1,Sl a2 l_ c2),(2,Pt 3 0),(4,Pt 5 0)],[(3,(24,(cO o_ a1 c1))),(5,(61,[I 0,I 0]))]⟩ fun Z a xc wW hS hE hr=>?_
 have ⟨hO,h1,h2⟩:=e3e hE hO.m2 h1.m1 h2.m1
 clear hE hr
 refine bk (oPe T hS 1 [] [(10,V (.agg #[ii o_.ab,ii o_.aP,ii o_.aU,.slice a1 o_.Rows.length c1]))] fun a hS=>?_)
 obtain ⟨hq,hm⟩:=hm
 refine op1 (call hS kr kr hb55 kr (fun _ _=>rfl) (FV _ _ o_ a1 c1 hq h1) ?_)
 intro v101 a eI eN hE hp hS
 have ⟨hO,h1,h2⟩:=e3e hE hO.m2 h1.m1 h2.m1
 generalize hr:bq o_=al at hp
 replace hm:=hm al hr
 subst hp
 refine ePe T hS [10,11] [(6,I al.2)] fun a hS=>(bk ?_)
 refine oPe T hS 1 [] [(15,Sl a2 l_ c2)] fun a hS=>(op1 (call hS kr kr hb56 kr (fun _ _=>rfl) (zT _ _ l_ a2 c2 h2) ?_))
 intro v105 a o9 qf hE hp hS
 have ⟨hO,h1,h2⟩:=e3e hE hO.m2 h1.m1 h2.m1
 generalize hr:bp l_=bu at hp
 replace hm:=hm bu hr
 subst hp
 refine ePe T hS [15,16] [(8,I bu.2)] fun a hS=>(a8 ?_)
 refine rPe T hS [6,8] [(24,B ((al.2 != 0) || (bu.2 != 0)))] (sp:=[21]) fun a hS=>(aC hS (b:=((al.2 != 0) || (bu.2 != 0))) kr (fun hb=>?_) fun hb=>?_)
 ·replace hm:=hm.1 hb
  refine rM T hS ⟨[(4,Pt 5 0)],[(5,(61,[I 0,I 0]))]⟩ fun Z a sx um hS hE hr=>?_
  replace hO:=hO.m2 hE
  clear hE hr
  refine aR ?_
  exact fin T hS hO (fun c=>c) rfl (r:=[.agg #[ii 0,ii 0]]) kr (fun X' hM hC=>⟨_,hm,rfl⟩)
 replace hm:=hm.2 hb
 refine aI (rM T hS ⟨[(4,Pt 5 0)],[(5,(61,[I (lN l_),I o_.ab]))]⟩ fun Z a y6 yQ hS hE hr=>?_)
 replace hO:=hO.m2 hE
 clear hE hr
 refine aR ?_
 exact fin T hS hO (fun c=>c) rfl (r:=[.agg #[ii (lN l_),ii o_.ab]]) kr (fun X' hM hC=>⟨_,hm,rfl⟩)
theorem C34 (FV:S55) (zT:S56) (v:∀ (o_:ah) (l_:List ae),jG o_ l_->VC34 o_ l_ (fun r=>r=au o_ l_)):S34:=fun w X o_ l_ a1 c1 a2 c2 hp h1 h2=>mo1 (W34 FV zT w X o_ l_ a1 c1 a2 c2 _ (v o_ l_ hp) h1 h2)
theorem W210 (w0) (X0) (n_:Int) (Q:Int->Prop) (hm:VC210 n_ Q) :
  rt 210 #[ii n_] aB w0 X0 (fun w X' v=>∃ r,Q r/\v=ii r):=by
 unfold VC210 at hm
 refine enter Tryz.func210 rfl (vals:=[ii n_]) kr ?_
 intro Z a hS hO hM
 refine rPe T hS [] [] fun a hS=>(bk ?_)
 refine oPe T hS 4 [0] [(6,I (wR (n_ * (wR (n_ - 1)))))] fun a hS=>(op1 (quo (k:=.i64) (p:=wR (n_ * (wR (n_ - 1)))) (q:=2) hS kr kr kr kr (by decide) ?_))
 intro a hS
 refine ePe T hS [6,7] [(2,I (wR (((wR (n_ * (wR (n_ - 1))))).tdiv 2)))] fun a hS=>(aR ?_)
 exact fin T hS hO (fun c=>c) rfl (r:=[ii (wR (((wR (n_ * (wR (n_ - 1))))).tdiv 2))]) kr (fun X' hM hC=>⟨_,hm,rfl⟩)
theorem C210 (v:∀ (n_:Int),VC210 n_ (fun r=>r=dJ n_)):S210:=fun w X n_=>mo1 (W210 w X n_ _ (v n_))
theorem W157 (mi:S59) (w0) (X0) (s_:aa) (Q:Bool->Prop) (hm:VC157 s_ Q) :
  rt 157 #[.agg #[ii s_.Ops,ii s_.ab]] aB w0 X0 (fun w X' v=>∃ r,Q r/\v=.bool r):=by
 unfold VC157 at hm
 refine enter Tryz.func157 rfl (vals:=[.agg #[ii s_.Ops,ii s_.ab]]) kr ?_
 intro Z a hS hO hM
 refine rM T hS ⟨[(1,Pt 2 0)],[(2,(61,[I s_.Ops,I s_.ab]))]⟩ fun Z a qj oW hS hE hr=>?_
 replace hO:=hO.m2 hE
 clear hE hr
 refine bk (oP T hS 1 ⟨[(3,V (.agg #[ii s_.Ops,ii s_.ab]))],[]⟩ fun a hS=>?_)
 refine op1 (call hS kr kr hb59 kr (fun _ _=>rfl) (mi _ _ s_) ?_)
 intro v101 a eI eN hE hp hS
 replace hO:=hO.m2 hE
 generalize hr:ao s_=al at hp
 replace hm:=hm al hr
 subst hp
 refine ePe T hS [3,4] [(2,B (al == 0))] fun a hS=>(aR ?_)
 exact fin T hS hO (fun c=>c) rfl (r:=[.bool (al == 0)]) kr (fun X' hM hC=>⟨_,hm,rfl⟩)
theorem C157 (mi:S59) (v:∀ (s_:aa),VC157 s_ (fun r=>r=cW s_)):S157:=fun w X s_=>mo1 (W157 mi w X s_ _ (v s_))
theorem W158 (ml:S157) (tq:S210) (w0) (X0) (s_:aa) (Q:Int->Prop) (hm:VC158 s_ Q) :
  rt 158 #[.agg #[ii s_.Ops,ii s_.ab]] aB w0 X0 (fun w X' v=>∃ r,Q r/\v=ii r):=by
 unfold VC158 at hm
 refine enter Tryz.func158 rfl (vals:=[.agg #[ii s_.Ops,ii s_.ab]]) kr ?_
 intro Z a hS hO hM
 refine rM T hS ⟨[(1,Pt 2 0)],[(2,(61,[I s_.Ops,I s_.ab]))]⟩ fun Z a y6 yQ hS hE hr=>?_
 replace hO:=hO.m2 hE
 clear hE hr
 refine a8 (bk ?_)
 refine oPe T hS 1 [] [(3,V (.agg #[ii s_.Ops,ii s_.ab]))] fun a hS=>(op1 (call hS kr kr hb157 kr (fun _ _=>rfl) (ml _ _ s_) ?_))
 intro v101 a eI eN hE hp hS
 replace hO:=hO.m2 hE
 generalize hr:cW s_=al at hp
 replace hm:=hm al hr
 subst hp
 refine ePe T hS [3,4] [(5,B (!al))] fun a hS=>(aC hS (b:=(!al)) kr (fun hb=>?_) fun hb=>?_)
 ·replace hm:=hm.1 hb
  refine rP T hS ⟨[(2,I 0)],[]⟩ fun a hS=>(aR ?_)
  exact fin T hS hO (fun c=>c) rfl (r:=[ii 0]) kr (fun X' hM hC=>⟨0,hm,rfl⟩)
 replace hm:=hm.2 hb
 refine aI (eT [2] mixed hS ?_)
 intro qj oW hS hE hD hH
 replace hO:=hO.m2 hE
 refine tke T [0,2,5,1,3,6,4] [2] hS hH #[true,true,true,true,true,true,true,false,false,false,false] 4 [1] [(7,I s_.Ops),(10,I (wR (2 * s_.Ops))),(12,I s_.Ops)] fun a hS=>(only 7 kr (by rfl) (call hS kr kr hb210 kr (fun _ _=>rfl) (tq _ _ s_.Ops) ?_))
 intro v107 a HR tN hE hp hS
 replace hO:=hO.m2 hE
 replace hD:=hD.ev hE rfl
 generalize hr:dJ s_.Ops=fS at hp
 replace hm:=hm fS hr
 subst hp
 replace hS:=hS.sle [] [(13,I fS)]
 refine cm (br.of hS (bks:=[2]) kr hD) ?_
 intro hH
 refine tke T [8,9,10] [2] hS hH (tts 11) 0 [7,10,12,13] [(2,I (wR (s_.Ops+(wR ((wR (2 * s_.Ops)) * fS)))))] fun a hS=>(bn kr ?_)
 replace hS:=hS.sl ⟨[(2,I (wR (s_.Ops+(wR ((wR (2 * s_.Ops)) * fS)))))],[]⟩
 refine aR ?_
 exact fin T hS hO (fun c=>c) rfl (r:=[ii (wR (s_.Ops+(wR ((wR (2 * s_.Ops)) * fS))))]) kr (fun X' hM hC=>⟨_,hm,rfl⟩)
theorem C158 (ml:S157) (tq:S210) (v:∀ (s_:aa),VC158 s_ (fun r=>r=gw s_)):S158:=fun w X s_=>mo1 (W158 ml tq w X s_ _ (v s_))
theorem W159 (ml:S157) (tq:S210) (w0) (X0) (s_:aa) (n_:Int) (Q:Int->Prop) (hm:VC159 s_ n_ Q) :
  rt 159 #[.agg #[ii s_.Ops,ii s_.ab],ii n_] aB w0 X0 (fun w X' v=>∃ r,Q r/\v=ii r):=by
 unfold VC159 at hm
 refine enter Tryz.func159 rfl (vals:=[.agg #[ii s_.Ops,ii s_.ab],ii n_]) kr ?_
 intro Z a hS hO hM
 refine rM T hS ⟨[(1,I n_),(2,Pt 3 0)],[(3,(61,[I s_.Ops,I s_.ab]))]⟩ fun Z a sx um hS hE hr=>?_
 replace hO:=hO.m2 hE
 clear hE hr
 refine a8 (bk ?_)
 refine oPe T hS 1 [] [(5,V (.agg #[ii s_.Ops,ii s_.ab]))] fun a hS=>(op1 (call hS kr kr hb157 kr (fun _ _=>rfl) (ml _ _ s_) ?_))
 intro v101 a eI eN hE hp hS
 replace hO:=hO.m2 hE
 generalize hr:cW s_=al at hp
 replace hm:=hm al hr
 subst hp
 refine ePe T hS [5,6] [(15,B (((!al) || (decide (n_ < 0))) || (decide (n_ > 2016))))] (sp:=[8,12]) fun a hS=>(aC hS (b:=(((!al) || (decide (n_ < 0))) || (decide (n_ > 2016)))) kr (fun hb=>?_) fun hb=>?_)
 ·replace hm:=hm.1 hb
  refine rP T hS ⟨[(4,I 0)],[]⟩ fun a hS=>(aR ?_)
  exact fin T hS hO (fun c=>c) rfl (r:=[ii 0]) kr (fun X' hM hC=>⟨0,hm,rfl⟩)
 replace hm:=hm.2 hb
 refine aI (bk ?_)
 refine oP T hS 3 ⟨[(16,I n_),(18,I s_.Ops)],[]⟩ fun a hS=>(op1 (call hS kr kr hb210 kr (fun _ _=>rfl) (tq _ _ s_.Ops) ?_))
 intro v105 a o9 qf hE hp hS
 replace hO:=hO.m2 hE
 generalize hr:dJ s_.Ops=bu at hp
 replace hm:=hm bu hr
 subst hp
 refine ePe T hS [16,18,19] [(4,I (wR (n_ * bu)))] fun a hS=>(aR ?_)
 exact fin T hS hO (fun c=>c) rfl (r:=[ii (wR (n_ * bu))]) kr (fun X' hM hC=>⟨_,hm,rfl⟩)
theorem C159 (ml:S157) (tq:S210) (v:∀ (s_:aa) (n_:Int),VC159 s_ n_ (fun r=>r=gU s_ n_)):S159:=fun w X s_ n_=>mo1 (W159 ml tq w X s_ n_ _ (v s_ n_))
end Go.Proofs.YtobeanopikjkeaaGreat
