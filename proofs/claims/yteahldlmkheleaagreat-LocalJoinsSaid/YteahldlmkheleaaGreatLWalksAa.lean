/- Walks of the functions: each returns what its condition asks. -/
import Derived.Test.YteahldlmkheleaaGreatLWalksS
set_option linter.all false
namespace Go.Proofs.YteahldlmkheleaaGreat
open Go Go.Sv
abbrev zAa0 (pn po jD dU cM:Nat):Nat->Nat:=fun c=>(bif Nat.beq c 6 then pn else (bif Nat.beq c 4 then po else (bif Nat.beq c 8 then jD else (bif Nat.beq c 5 then dU else (bif Nat.beq c 1009 then cM else c)))))
abbrev zAa1 (dU cM:Nat):Nat->Nat:=fun c=>(bif Nat.beq c 4 then dU else (bif Nat.beq c 1007 then cM else c))
abbrev zAa2 (i1 i2 i3 i4 m2:Nat):List (Nat × Nat):=[(i1,901),(i2,902),(i3,903),(i4,904),(m2,2002)]
set_option maxHeartbeats 1000000
theorem W21 (w0) (X0) (o_:ao) (a1) (c1) (Q:Bool->Prop) (hm:VC21 o_ Q) (h1:RS aB w0 X0 a1 o_.Rows c1) :
  Ret Tryz.prog 21 #[.agg #[.int .i64 o_.au,.int .i64 o_.aA,.int .i64 o_.aH,.slice a1 o_.Rows.length c1]] aM w0 X0 (fun w X' v=>∃ r,Q r/\v=.bool r):=by
 unfold VC21 at hm
 replace hm:=hm (h1.sm kr)
 refine enter Tryz.func21 rfl (vals:=[.agg #[.int .i64 o_.au,.int .i64 o_.aA,.int .i64 o_.aH,.slice a1 o_.Rows.length c1]]) kr ?_
 intro Z a hS hO hM
 replace h1:=h1.m0 hM
 refine rM T hS ⟨[(1,Pt 2 0)],[(2,(48,(cO o_ a1 c1)))]⟩ fun Z a oX pE hS hE hr=>?_
 replace hO:=hO.m2 hE
 replace h1:=h1.m1 hE
 clear hE hr
 refine rP T hS ⟨[(2,B (decide ((lN o_.Rows)≤300)))],[]⟩ fun a hS=>?_
 refine ba ?_
 exact fin T hS hO (fun c=>c) rfl (r:=[.bool (decide ((lN o_.Rows)≤300))]) kr (fun X' hM hC=>⟨(decide ((lN o_.Rows)≤300)),hm,rfl⟩)
theorem C21 (v:∀ (o_:ao),VC21 o_ (fun r=>r=ig o_)):S21:=by
 intro w X o_ a1 c1   h1
 refine (W21 w X o_ a1 c1   _ (v o_) h1).mono ?_
 rintro _ _ _ _ ⟨r,rfl,h⟩
 exact h
theorem W81 (w0) (X0) (n_:Int) (top:Int) (Q:Bool->Prop) (hm:VC81 n_ top Q) :
  Ret Tryz.prog 81 #[.int .i64 n_,.int .i64 top] aM w0 X0 (fun w X' v=>∃ r,Q r/\v=.bool r):=by
 unfold VC81 at hm
 refine enter Tryz.func81 rfl (vals:=[.int .i64 n_,.int .i64 top]) kr ?_
 intro Z a hS hO hM
 refine rPe T hS [] [] fun a hS=>?_
 refine rPe T hS [0,1] [(4,B ((decide (n_≥0)) && (decide (n_ < top))))] (sp:=[7]) fun a hS=>?_
 refine ba ?_
 exact fin T hS hO (fun c=>c) rfl (r:=[.bool ((decide (n_≥0)) && (decide (n_ < top)))]) kr (fun X' hM hC=>⟨((decide (n_≥0)) && (decide (n_ < top))),hm,rfl⟩)
theorem C81 (v:∀ (n_:Int) (top:Int),VC81 n_ top (fun r=>r=b5 n_ top)):S81:=by
 intro w X n_ top    
 refine (W81 w X n_ top    _ (v n_ top)).mono ?_
 rintro _ _ _ _ ⟨r,rfl,h⟩
 exact h
theorem W107 (w0) (X0) (vals:List Int) (a1) (c1) (Q:Int->Prop) (hm:VC107 vals Q) (h1:RS tI w0 X0 a1 vals c1) :
  Ret Tryz.prog 107 #[.slice a1 vals.length c1] aM w0 X0 (fun w X' v=>∃ r,Q r/\v=.int .i64 r):=by
 unfold VC107 at hm
 replace hm:=hm (h1.sm kr)
 refine enter Tryz.func107 rfl (vals:=[.slice a1 vals.length c1]) kr ?_
 intro Z a hS hO hM
 replace h1:=h1.m0 hM
 refine rPe T hS [] [] fun a hS=>?_
 refine rPe T hS [] [(3,I 0)] fun a hS=>?_
 refine cb (fun a w=>∃ Z X,VC107_J1 Q/\St Tryz.f107.ntmps ⟨[(3,I 0)],[]⟩ Z a w X/\Old w0 X0 w X) ?_ ?_
 ·refine rPe T hS [0] [(6,Sl a1 vals c1),(7,I (lN vals)),(8,I 0)] fun a hS=>?_
  refine aQ ?_
  obtain ⟨I1,μ1,cJ,hm⟩:=hm
  refine cH (σ:=Int) (fun s a w=>∃ Z X,I1 s/\St Tryz.f107.ntmps ⟨[(3,I 0),(6,Sl a1 vals c1),(7,I (lN vals)),(8,I s)],[]⟩ Z a w X/\Old w0 X0 w X/\RS tI w X a1 vals c1) (fun s=>μ1 s) (0) ?_ ?_
  ·exact ⟨Z,_,cJ,hS.sl _,hO,h1⟩
  rintro bB a qn ⟨Z,mh,hI,hS,hO,h101⟩
  replace hm:=hm bB hI
  clear hI cJ
  refine rPe T hS [] [(9,B (decide (bB < (lN vals))))] fun a hS=>?_
  refine bh ?_
  refine aI hS (b:=decide (bB < (lN vals))) kr (fun hb=>?_) fun hb=>?_
  ·replace hm:=hm.1 hb
   refine aO (bh ?_)
   refine aQ ?_
   refine br ?_
   obtain ⟨hq,hm⟩:=hm
   refine op1 (index (e:=3) (k:=.i64) T hS kr kr kr kr h101 kr kr hq.1 hq.2 ?_)
   intro uP a h104 hS
   refine op1 (eT T hS kr kr kr h104 rfl kr ?_)
   intro v105 a hv hS
   cases hv
   refine ePe T hS [9,10,11] [(5,I (gi vals bB))] fun a hS=>?_
   refine rPe T hS [] [(14,B ((gi vals bB) != 0))] fun a hS=>?_
   refine aI hS (b:=((gi vals bB) != 0)) kr (fun hb=>?_) fun hb=>?_
   ·replace hm:=hm.1 hb
    refine rPe T hS [3,5,6,7,8,14] [(2,I (gi vals bB))] fun a hS=>?_
    refine ba ?_
    exact fin T hS hO (fun c=>c) rfl (r:=[.int .i64 (gi vals bB)]) kr (fun X' hM hC=>⟨(gi vals bB),hm,rfl⟩)
   replace hm:=hm.2 hb
   refine aO ?_
   refine region (ePe T hS [5,14] [(8,I (wR (bB+1)))] fun a hS=>?_)
   exact ⟨wR (bB+1),⟨Z,_,hm.1,hS.sl _,hO,h101⟩,hm.2⟩
  replace hm:=hm.2 hb
  refine cu (by rfl) ?_
  exact ⟨Z,_,hm,hS.sl _,hO⟩
 rintro a qm ⟨Z,pC,hm,hS,hO⟩
 unfold VC107_J1 at hm
 refine rPe T hS [3] [(2,I 0)] fun a hS=>?_
 refine ba ?_
 exact fin T hS hO (fun c=>c) rfl (r:=[.int .i64 0]) kr (fun X' hM hC=>⟨0,hm,rfl⟩)
theorem C107 (v:∀ (vals:List Int),VC107 vals (fun r=>r=gB vals)):S107:=by
 intro w X vals a1 c1   h1
 refine (W107 w X vals a1 c1   _ (v vals) h1).mono ?_
 rintro _ _ _ _ ⟨r,rfl,h⟩
 exact h
theorem W113 (w0) (X0) (x_:Int) (Q:Bool->Prop) (hm:VC113 x_ Q) :
  Ret Tryz.prog 113 #[.int .i64 x_] aM w0 X0 (fun w X' v=>∃ r,Q r/\v=.bool r):=by
 unfold VC113 at hm
 refine enter Tryz.func113 rfl (vals:=[.int .i64 x_]) kr ?_
 intro Z a hS hO hM
 refine rPe T hS [] [] fun a hS=>?_
 refine rPe T hS [0] [(2,B (x_ != x_))] fun a hS=>?_
 refine ba ?_
 exact fin T hS hO (fun c=>c) rfl (r:=[.bool (x_ != x_)]) kr (fun X' hM hC=>⟨(x_ != x_),hm,rfl⟩)
theorem C113 (v:∀ (x_:Int),VC113 x_ (fun r=>r=eY x_)):S113:=by
 intro w X x_    
 refine (W113 w X x_    _ (v x_)).mono ?_
 rintro _ _ _ _ ⟨r,rfl,h⟩
 exact h
theorem W108 (Ec:S113) (w0) (X0) (x_:Int) (y_:Int) (Q:Int->Prop) (hm:VC108 x_ y_ Q) :
  Ret Tryz.prog 108 #[.int .i64 x_,.int .i64 y_] aM w0 X0 (fun w X' v=>∃ r,Q r/\v=.int .i64 r):=by
 unfold VC108 at hm
 refine enter Tryz.func108 rfl (vals:=[.int .i64 x_,.int .i64 y_]) kr ?_
 intro Z a hS hO hM
 refine rPe T hS [] [] fun a hS=>?_
 refine br ?_
 refine oPe T hS 1 [] [(7,I x_)] fun a hS=>?_
 refine op1 (call hS kr kr hb113 kr (fun _ _=>rfl) (Ec _ _ x_) ?_)
 intro v101 a fH fK hE hp hS
 replace hO:=hO.m2 hE
 obtain ⟨ay,hr⟩:∃ r,eY x_=r:=⟨_,rfl⟩
 replace hm:=hm ay hr
 rw [hr] at hp
 clear hr
 subst hp
 refine ePe T hS [7,8] [(5,B ay)] fun a hS=>?_
 refine br ?_
 refine oPe T hS 1 [] [(9,I y_)] fun a hS=>?_
 refine op1 (call hS kr kr hb113 kr (fun _ _=>rfl) (Ec _ _ y_) ?_)
 intro v105 a n6 n2 hE hp hS
 replace hO:=hO.m2 hE
 obtain ⟨bb,hr⟩:∃ r,eY y_=r:=⟨_,rfl⟩
 replace hm:=hm bb hr
 rw [hr] at hp
 clear hr
 subst hp
 refine ePe T hS [9,10] [(6,B bb)] fun a hS=>?_
 refine bh ?_
 refine rPe T hS [5] [(11,B ay)] fun a hS=>?_
 refine aI hS (b:=ay) kr (fun hb=>?_) fun hb=>?_
 ·replace hm:=hm.1 hb
  refine bh ?_
  refine rPe T hS [0,1,6,11] [(12,B bb)] fun a hS=>?_
  refine aI hS (b:=bb) kr (fun hb=>?_) fun hb=>?_
  ·replace hm:=hm.1 hb
   refine rPe T hS [12] [(4,I 0)] fun a hS=>?_
   refine ba ?_
   exact fin T hS hO (fun c=>c) rfl (r:=[.int .i64 0]) kr (fun X' hM hC=>⟨0,hm,rfl⟩)
  replace hm:=hm.2 hb
  refine aO ?_
  refine rPe T hS [12] [(4,I (-1))] fun a hS=>?_
  refine ba ?_
  exact fin T hS hO (fun c=>c) rfl (r:=[.int .i64 (-1)]) kr (fun X' hM hC=>⟨(-1),hm,rfl⟩)
 replace hm:=hm.2 hb
 refine aO (bh ?_)
 refine rPe T hS [6,11] [(13,B bb)] fun a hS=>?_
 refine aI hS (b:=bb) kr (fun hb=>?_) fun hb=>?_
 ·replace hm:=hm.1 hb
  refine rPe T hS [0,1,13] [(4,I 1)] fun a hS=>?_
  refine ba ?_
  exact fin T hS hO (fun c=>c) rfl (r:=[.int .i64 1]) kr (fun X' hM hC=>⟨1,hm,rfl⟩)
 replace hm:=hm.2 hb
 refine aO (bh ?_)
 refine rPe T hS [13] [(16,B (decide (x_ < y_)))] fun a hS=>?_
 refine aI hS (b:=decide (x_ < y_)) kr (fun hb=>?_) fun hb=>?_
 ·replace hm:=hm.1 hb
  refine rPe T hS [0,1,16] [(4,I (-1))] fun a hS=>?_
  refine ba ?_
  exact fin T hS hO (fun c=>c) rfl (r:=[.int .i64 (-1)]) kr (fun X' hM hC=>⟨(-1),hm,rfl⟩)
 replace hm:=hm.2 hb
 refine aO (bh ?_)
 refine rPe T hS [0,1,16] [(19,B (decide (x_ > y_)))] fun a hS=>?_
 refine aI hS (b:=decide (x_ > y_)) kr (fun hb=>?_) fun hb=>?_
 ·replace hm:=hm.1 hb
  refine rPe T hS [19] [(4,I 1)] fun a hS=>?_
  refine ba ?_
  exact fin T hS hO (fun c=>c) rfl (r:=[.int .i64 1]) kr (fun X' hM hC=>⟨1,hm,rfl⟩)
 replace hm:=hm.2 hb
 refine aO ?_
 refine rPe T hS [19] [(4,I 0)] fun a hS=>?_
 refine ba ?_
 exact fin T hS hO (fun c=>c) rfl (r:=[.int .i64 0]) kr (fun X' hM hC=>⟨0,hm,rfl⟩)
theorem C108 (Ec:S113) (v:∀ (x_:Int) (y_:Int),VC108 x_ y_ (fun r=>r=dq x_ y_)):S108:=by
 intro w X x_ y_    
 refine (W108 Ec w X x_ y_    _ (v x_ y_)).mono ?_
 rintro _ _ _ _ ⟨r,rfl,h⟩
 exact h
theorem W96 (GD:S107) (Ed:S108) (w0) (X0) (a_:bc) (b_:bc) (Q:Int->Prop) (hm:VC96 a_ b_ Q) :
  Ret Tryz.prog 96 #[.agg #[.int .i64 a_.State,.int .i64 a_.Kind,.int .i64 a_.Next,.int .i64 a_.Result],.agg #[.int .i64 b_.State,.int .i64 b_.Kind,.int .i64 b_.Next,.int .i64 b_.Result]] aM w0 X0 (fun w X' v=>∃ r,Q r/\v=.int .i64 r):=by
 unfold VC96 at hm
 refine enter Tryz.func96 rfl (vals:=[.agg #[.int .i64 a_.State,.int .i64 a_.Kind,.int .i64 a_.Next,.int .i64 a_.Result],.agg #[.int .i64 b_.State,.int .i64 b_.Kind,.int .i64 b_.Next,.int .i64 b_.Result]]) kr ?_
 intro Z a hS hO hM
 refine rM T hS ⟨[(2,Pt 3 0),(3,Pt 4 0)],[(3,(107,(cR a_))),(4,(107,(cR b_)))]⟩ fun Z a xh Dg hS hE hr=>?_
 replace hO:=hO.m2 hE
 clear hE hr
 refine dB [3,4] mixed hS ?_
 intro oX pE hS hE hD hH
 replace hO:=hO.m2 hE
 refine tke T [0,2,5,7,1,3,6,8] [3,4] hS hH #[true,true,true,true,false,true,true,true,true,false,false,false,false] 5 [2,3] [(6,I a_.State),(8,I b_.State),(11,I a_.Kind),(13,I b_.Kind)] fun a hS=>?_
 refine only 4 kr (by rfl) (call hS kr kr hb108 kr (fun _ _=>rfl) (Ed _ _ a_.State b_.State) ?_)
 intro v103 a z6 pD hE hp hS
 replace hO:=hO.m2 hE
 replace hD:=hD.ev hE rfl
 obtain ⟨gE,hr⟩:∃ r,dq a_.State b_.State=r:=⟨_,rfl⟩
 replace hm:=hm gE hr
 rw [hr] at hp
 clear hr
 subst hp
 replace hS:=hS.sle [] [(9,I gE)]
 refine da (bO.of hS (bks:=[3,4]) kr hD) ?_
 intro hH
 refine only 9 kr (by rfl) (call hS kr kr hb108 kr (fun _ _=>rfl) (Ed _ _ a_.Kind b_.Kind) ?_)
 intro v107 a F4 Dh hE hp hS
 replace hO:=hO.m2 hE
 replace hD:=hD.ev hE rfl
 obtain ⟨fB,hr⟩:∃ r,dq a_.Kind b_.Kind=r:=⟨_,rfl⟩
 replace hm:=hm fB hr
 rw [hr] at hp
 clear hr
 subst hp
 replace hS:=hS.sle [] [(14,I fB)]
 refine da (bO.of hS (bks:=[3,4]) kr hD) ?_
 intro hH
 refine only 10 kr (by rfl) (lit (E:=3) (col:=0) (T:=tI) (vals:=[.int .i64 gE,.int .i64 fB]) (ys:=[gE,fB]) T hS kr kr kr kr (by exact ⟨rfl,rfl,trivial⟩) rfl kr kr kr kr ?_)
 intro b111 a Bt wT hE h114 hN hS
 clear hN
 replace hO:=hO.m2 hE
 replace hD:=hD.ev hE rfl
 replace h114:=h114.rs0
 refine da (bO.of hS (bks:=[3,4]) kr hD) ?_
 intro hH
 refine only 11 kr (by rfl) (call hS kr kr hb107 kr (fun _ _=>rfl) (GD _ _ [gE,fB] (some ⟨b111,0,none⟩) 2 h114) ?_)
 intro v115 a uY yq hE hp hS
 replace hO:=hO.m2 hE
 replace hD:=hD.ev hE rfl
 replace h114:=h114.m1 hE
 obtain ⟨ir,hr⟩:∃ r,gB [gE,fB]=r:=⟨_,rfl⟩
 replace hm:=hm ir hr
 rw [hr] at hp
 clear hr
 subst hp
 replace hS:=hS.sle [] [(16,I ir)]
 refine da (bO.of hS (bks:=[3,4]) kr hD) ?_
 intro hH
 refine tke T [12] [3,4] hS hH (tts 13) 0 [6,8,11,13,9,14,15,16] [(4,I ir)] fun a hS=>?_
 refine aY kr ?_
 replace hS:=hS.sl ⟨[(4,I ir)],[]⟩
 refine ba ?_
 exact fin T hS hO (fun c=>c) rfl (r:=[.int .i64 ir]) kr (fun X' hM hC=>⟨ir,hm,rfl⟩)
theorem C96 (GD:S107) (Ed:S108) (v:∀ (a_:bc) (b_:bc),VC96 a_ b_ (fun r=>r=gx a_ b_)):S96:=by
 intro w X a_ b_    
 refine (W96 GD Ed w X a_ b_    _ (v a_ b_)).mono ?_
 rintro _ _ _ _ ⟨r,rfl,h⟩
 exact h
theorem W82 (Bg:S81) (K5:S96) (w0) (X0) (o_:ao) (i_:Int) (a1) (c1) (Q:Int->Prop) (hm:VC82 o_ i_ Q) (h1:RS aB w0 X0 a1 o_.Rows c1) :
  Ret Tryz.prog 82 #[.agg #[.int .i64 o_.au,.int .i64 o_.aA,.int .i64 o_.aH,.slice a1 o_.Rows.length c1],.int .i64 i_] aM w0 X0 (fun w X' v=>∃ r,Q r/\v=.int .i64 r):=by
 unfold VC82 at hm
 replace hm:=hm (h1.sm kr)
 refine enter Tryz.func82 rfl (vals:=[.agg #[.int .i64 o_.au,.int .i64 o_.aA,.int .i64 o_.aH,.slice a1 o_.Rows.length c1],.int .i64 i_]) kr ?_
 intro Z a hS hO hM
 replace h1:=h1.m0 hM
 refine rM T hS ⟨[(1,I i_),(2,Pt 3 0)],[(3,(48,(cO o_ a1 c1)))]⟩ fun Z a DQ Hn hS hE hr=>?_
 replace hO:=hO.m2 hE
 replace h1:=h1.m1 hE
 clear hE hr
 refine br ?_
 refine oPe T hS 3 [] [(7,Sl a1 o_.Rows c1),(8,I i_)] fun a hS=>?_
 obtain ⟨hq,hm⟩:=hm
 refine op1 (index (e:=107) (k:=.i64) T hS kr kr kr kr h1 kr kr hq.1 hq.2 ?_)
 intro Kd a h102 hS
 refine op1 (eS T hS kr kr kr h102 kr kr ?_)
 intro v103 a hv hS
 subst hv
 refine eM T hS ⟨[(1,I i_),(2,Pt 3 0),(5,Pt 6 0)],[(3,(48,(cO o_ a1 c1))),(6,(107,(cR (gi o_.Rows i_))))]⟩ fun Z a tv wS hS hE hr=>?_
 replace hO:=hO.m2 hE
 replace h1:=h1.m1 hE
 clear hE hr
 refine bh ?_
 refine aQ ?_
 refine cb (fun a w=>∃ (Z:Nat->Nat) (X:Nat->Nat) (fV:Bool),VC82_J1 o_ i_ Q fV/\St Tryz.f82.ntmps ⟨[(1,I i_),(2,Pt 3 0),(5,Pt 6 0),(11,B fV)],[(3,(48,(cO o_ a1 c1))),(6,(107,(cR (gi o_.Rows i_))))]⟩ Z a w X/\Old w0 X0 w X/\RS aB w X a1 o_.Rows c1) ?_ ?_
 ·refine region ?_
  refine oPe T hS 4 [] [(13,I ((gi o_.Rows i_).State)),(15,I o_.au)] fun a hS=>?_
  refine op1 (call hS kr kr hb81 kr (fun _ _=>rfl) (Bg _ _ ((gi o_.Rows i_).State) o_.au) ?_)
  intro v126 a tw Bd hE hp hS
  replace hO:=hO.m2 hE
  replace h1:=h1.m1 hE
  obtain ⟨xG,hr⟩:∃ r,b5 ((gi o_.Rows i_).State) o_.au=r:=⟨_,rfl⟩
  replace hm:=hm xG hr
  rw [hr] at hp
  clear hr
  subst hp
  refine oPe T hS 2 [13,15,16] [(18,B (!xG))] fun a hS=>?_
  rcases bft (!xG) with hb | hb
  ·replace hS:=hS.lit (t:=18) kr hb
   replace hm:=hm.1 hb
   refine ePe T hS [18] [(11,B true)] fun a hS=>?_
   exact ⟨Z,_,true,hm,hS.sl _,hO,h1⟩
  replace hS:=hS.lit (t:=18) kr hb
  replace hm:=hm.2 hb
  refine oPe T hS 4 [] [(20,I ((gi o_.Rows i_).Next)),(22,I o_.au)] fun a hS=>?_
  refine op1 (call hS kr kr hb81 kr (fun _ _=>rfl) (Bg _ _ ((gi o_.Rows i_).Next) o_.au) ?_)
  intro v130 a r7 rS hE hp hS
  replace hO:=hO.m2 hE
  replace h1:=h1.m1 hE
  obtain ⟨jN,hr⟩:∃ r,b5 ((gi o_.Rows i_).Next) o_.au=r:=⟨_,rfl⟩
  replace hm:=hm jN hr
  rw [hr] at hp
  clear hr
  subst hp
  refine ePe T hS [18,20,22,23] [(11,B (!jN))] fun a hS=>?_
  exact ⟨Z,_,(!jN),hm,hS.sl _,hO,h1⟩
 rintro a DR ⟨Z,Dd,fV,hm,hS,hO,h105⟩
 unfold VC82_J1 at hm
 refine aI hS (b:=fV) kr (fun hb=>?_) fun hb=>?_
 ·replace hm:=hm.1 hb
  refine rP T hS ⟨[(4,I 30)],[]⟩ fun a hS=>?_
  refine ba ?_
  exact fin T hS hO (fun c=>c) rfl (r:=[.int .i64 30]) kr (fun X' hM hC=>⟨30,hm,rfl⟩)
 replace hm:=hm.2 hb
 refine br ?_
 refine oPe T hS 4 [11] [(28,I ((gi o_.Rows i_).Kind)),(30,I o_.aA)] fun a hS=>?_
 refine op1 (call hS kr kr hb81 kr (fun _ _=>rfl) (Bg _ _ ((gi o_.Rows i_).Kind) o_.aA) ?_)
 intro v106 a qn pC hE hp hS
 replace hO:=hO.m2 hE
 replace h105:=h105.m1 hE
 obtain ⟨jj,hr⟩:∃ r,b5 ((gi o_.Rows i_).Kind) o_.aA=r:=⟨_,rfl⟩
 replace hm:=hm jj hr
 rw [hr] at hp
 clear hr
 subst hp
 refine ePe T hS [28,30,31] [(26,B (!jj))] fun a hS=>?_
 refine aI hS (b:=(!jj)) kr (fun hb=>?_) fun hb=>?_
 ·replace hm:=hm.1 hb
  refine rP T hS ⟨[(4,I 31)],[]⟩ fun a hS=>?_
  refine ba ?_
  exact fin T hS hO (fun c=>c) rfl (r:=[.int .i64 31]) kr (fun X' hM hC=>⟨31,hm,rfl⟩)
 replace hm:=hm.2 hb
 refine br ?_
 refine oPe T hS 2 [26] [(35,I ((gi o_.Rows i_).Result))] fun a hS=>?_
 refine op1 (call hS kr kr hb81 kr (fun _ _=>rfl) (Bg _ _ ((gi o_.Rows i_).Result) 1000001) ?_)
 intro v110 a DS uN hE hp hS
 replace hO:=hO.m2 hE
 replace h105:=h105.m1 hE
 obtain ⟨fX,hr⟩:∃ r,b5 ((gi o_.Rows i_).Result) 1000001=r:=⟨_,rfl⟩
 replace hm:=hm fX hr
 rw [hr] at hp
 clear hr
 subst hp
 refine ePe T hS [35,36] [(33,B (!fX))] fun a hS=>?_
 refine aI hS (b:=(!fX)) kr (fun hb=>?_) fun hb=>?_
 ·replace hm:=hm.1 hb
  refine rP T hS ⟨[(4,I 7)],[]⟩ fun a hS=>?_
  refine ba ?_
  exact fin T hS hO (fun c=>c) rfl (r:=[.int .i64 7]) kr (fun X' hM hC=>⟨7,hm,rfl⟩)
 replace hm:=hm.2 hb
 refine cb (fun a w=>∃ (Z:Nat->Nat) (X:Nat->Nat) (iO:Bool),VC82_J2 Q iO/\St Tryz.f82.ntmps ⟨[(38,B iO)],[]⟩ Z a w X/\Old w0 X0 w X) ?_ ?_
 ·refine hJ [3,6] mixed hS ?_
  intro pY uM hS hE hD hH
  replace hO:=hO.m2 hE
  replace h105:=h105.m1 hE
  refine tke T [0,1,2] [3,6] hS hH #[true,true,true,false,false,false,false,false,false,false,false,false,false,false] 11 [] [(41,B (decide (i_ > 0)))] fun a hS=>?_
  rcases bft (decide (i_ > 0)) with hb | hb
  ·replace hS:=hS.lit (t:=41) kr hb
   replace hm:=hm.1 hb
   refine tke T [3,5,9,4,6] [3,6] hS hH #[true,true,true,true,true,true,true,false,false,true,false,false,false,false] 6 [1,2,5] [(43,Sl a1 o_.Rows c1),(45,I (wR (i_ - 1))),(48,V (.agg #[.int .i64 ((gi o_.Rows i_).State),.int .i64 ((gi o_.Rows i_).Kind),.int .i64 ((gi o_.Rows i_).Next),.int .i64 ((gi o_.Rows i_).Result)]))] fun a hS=>?_
   obtain ⟨hq,hm⟩:=hm
   refine dg (e:=107) (k:=.i64) T 7 hS kr kr kr (by rfl) kr hH kr kr h105 kr kr hq.1 hq.2 ?_
   intro Nz a h118 hS
   have Jf:=h118.here
   refine ld T 8 hS kr kr kr (by rfl) kr hH kr h118 Jf kr kr ?_
   intro v119 a hv hS
   subst hv
   refine only 10 kr (by rfl) (call hS kr kr hb96 kr (fun _ _=>rfl) (K5 _ _ (gi o_.Rows (wR (i_ - 1))) (gi o_.Rows i_)) ?_)
   intro v120 a xg Df hE hp hS
   replace hO:=hO.m2 hE
   replace hD:=hD.ev hE rfl
   replace h105:=h105.m1 hE
   replace h118:=h118.m1 hE
   obtain ⟨vt,hr⟩:∃ r,gx (gi o_.Rows (wR (i_ - 1))) (gi o_.Rows i_)=r:=⟨_,rfl⟩
   replace hm:=hm vt hr
   rw [hr] at hp
   clear hr
   subst hp
   replace hS:=hS.sle [] [(49,I vt)]
   refine da (bO.of hS (bks:=[3,6]) kr hD) ?_
   intro hH
   refine tke T [11,12,13] [3,6] hS hH (tts 14) 0 [41,43,45,48,46,47,49] [(38,B (decide (vt≥0)))] fun a hS=>?_
   refine aY kr ?_
   replace hS:=hS.sl ⟨[(38,B (decide (vt≥0)))],[]⟩
   exact ⟨Z,_,decide (vt≥0),hm,hS.sl _,hO⟩
  replace hS:=hS.lit (t:=41) kr hb
  replace hm:=hm.2 hb
  refine tke T [3,5,9,4,6,7,8,10,11,12,13] [3,6] hS hH (tts 14) 0 [1,2,5,41] [(38,B false)] fun a hS=>?_
  refine aY kr ?_
  replace hS:=hS.sl ⟨[(38,B false)],[]⟩
  exact ⟨Z,_,false,hm,hS.sl _,hO⟩
 rintro a z4 ⟨Z,yp,iO,hm,hS,hO⟩
 unfold VC82_J2 at hm
 refine aI hS (b:=iO) kr (fun hb=>?_) fun hb=>?_
 ·replace hm:=hm.1 hb
  refine rPe T hS [38] [(4,I 32)] fun a hS=>?_
  refine ba ?_
  exact fin T hS hO (fun c=>c) rfl (r:=[.int .i64 32]) kr (fun X' hM hC=>⟨32,hm,rfl⟩)
 replace hm:=hm.2 hb
 refine aO ?_
 refine rPe T hS [38] [(4,I 0)] fun a hS=>?_
 refine ba ?_
 exact fin T hS hO (fun c=>c) rfl (r:=[.int .i64 0]) kr (fun X' hM hC=>⟨0,hm,rfl⟩)
theorem C82 (Bg:S81) (K5:S96) (v:∀ (o_:ao) (i_:Int),preRow o_ i_->VC82 o_ i_ (fun r=>r=iC o_ i_)):S82:=by
 intro w X o_ i_ a1 c1   hp h1
 refine (W82 Bg K5 w X o_ i_ a1 c1   _ (v o_ i_ hp) h1).mono ?_
 rintro _ _ _ _ ⟨r,rfl,h⟩
 exact h
theorem W53 (Bg:S81) (Lg:S82) (w0) (X0) (o_:ao) (a1) (c1) (Q:Int × Int->Prop) (hm:VC53 o_ Q) (h1:RS aB w0 X0 a1 o_.Rows c1) :
  Ret Tryz.prog 53 #[.agg #[.int .i64 o_.au,.int .i64 o_.aA,.int .i64 o_.aH,.slice a1 o_.Rows.length c1]] aM w0 X0 (fun w X' v=>∃ r,Q r/\v=.tuple #[.int .i64 r.1,.int .i64 r.2]):=by
 unfold VC53 at hm
 replace hm:=hm (h1.sm kr)
 refine enter Tryz.func53 rfl (vals:=[.agg #[.int .i64 o_.au,.int .i64 o_.aA,.int .i64 o_.aH,.slice a1 o_.Rows.length c1]]) kr ?_
 intro Z a hS hO hM
 replace h1:=h1.m0 hM
 refine rM T hS ⟨[(1,Pt 2 0)],[(2,(48,(cO o_ a1 c1)))]⟩ fun Z a r8 se hS hE hr=>?_
 replace hO:=hO.m2 hE
 replace h1:=h1.m1 hE
 clear hE hr
 refine bh ?_
 refine cb (fun a w=>∃ (Z:Nat->Nat) (X:Nat->Nat) (bD:Bool),VC53_J1 o_ Q bD/\St Tryz.f53.ntmps ⟨[(1,Pt 2 0),(25,B bD)],[(2,(48,(cO o_ a1 c1)))]⟩ Z a w X/\Old w0 X0 w X/\RS aB w X a1 o_.Rows c1) ?_ ?_
 ·refine region ?_
  refine oPe T hS 3 [] [(8,I (wR (o_.au - 1)))] fun a hS=>?_
  refine op1 (call hS kr kr hb81 kr (fun _ _=>rfl) (Bg _ _ (wR (o_.au - 1)) 32) ?_)
  intro v114 a pY uM hE hp hS
  replace hO:=hO.m2 hE
  replace h1:=h1.m1 hE
  obtain ⟨eK,hr⟩:∃ r,b5 (wR (o_.au - 1)) 32=r:=⟨_,rfl⟩
  replace hm:=hm eK hr
  rw [hr] at hp
  clear hr
  subst hp
  refine oPe T hS 2 [8,9] [(11,B (!eK))] fun a hS=>?_
  rcases bft (!eK) with hb | hb
  ·replace hS:=hS.lit (t:=11) kr hb
   replace hm:=hm.1 hb
   refine ePe T hS [11] [(25,B true)] fun a hS=>?_
   exact ⟨Z,_,true,hm,hS.sl _,hO,h1⟩
  replace hS:=hS.lit (t:=11) kr hb
  replace hm:=hm.2 hb
  refine oPe T hS 3 [] [(14,I (wR (o_.aA - 1)))] fun a hS=>?_
  refine op1 (call hS kr kr hb81 kr (fun _ _=>rfl) (Bg _ _ (wR (o_.aA - 1)) 64) ?_)
  intro v118 a xh Dg hE hp hS
  replace hO:=hO.m2 hE
  replace h1:=h1.m1 hE
  obtain ⟨fR,hr⟩:∃ r,b5 (wR (o_.aA - 1)) 64=r:=⟨_,rfl⟩
  replace hm:=hm fR hr
  rw [hr] at hp
  clear hr
  subst hp
  refine oPe T hS 3 [11,14,15] [(18,B (!fR))] fun a hS=>?_
  rcases bft (!fR) with hb | hb
  ·replace hS:=hS.lit (t:=18) kr hb
   replace hm:=hm.1 hb
   refine ePe T hS [18] [(25,B true)] fun a hS=>?_
   exact ⟨Z,_,true,hm,hS.sl _,hO,h1⟩
  replace hS:=hS.lit (t:=18) kr hb
  replace hm:=hm.2 hb
  refine oPe T hS 4 [] [(20,I o_.aH),(22,I o_.au)] fun a hS=>?_
  refine op1 (call hS kr kr hb81 kr (fun _ _=>rfl) (Bg _ _ o_.aH o_.au) ?_)
  intro v122 a F2 yp hE hp hS
  replace hO:=hO.m2 hE
  replace h1:=h1.m1 hE
  obtain ⟨An,hr⟩:∃ r,b5 o_.aH o_.au=r:=⟨_,rfl⟩
  replace hm:=hm An hr
  rw [hr] at hp
  clear hr
  subst hp
  refine ePe T hS [18,20,22,23] [(25,B (!An))] fun a hS=>?_
  exact ⟨Z,_,(!An),hm,hS.sl _,hO,h1⟩
 rintro a tw ⟨Z,yn,bD,hm,hS,hO,h102⟩
 unfold VC53_J1 at hm
 refine aI hS (b:=bD) kr (fun hb=>?_) fun hb=>?_
 ·replace hm:=hm.1 hb
  refine rP T hS ⟨[(2,I (-1)),(3,I 2)],[]⟩ fun a hS=>?_
  refine ba ?_
  exact fin T hS hO (fun c=>c) rfl (r:=[.int .i64 (-1),.int .i64 2]) kr (fun X' hM hC=>⟨((-1),2),hm,rfl⟩)
 replace hm:=hm.2 hb
 refine aO ?_
 refine cb (fun a w=>∃ Z X,VC53_J2 o_ Q/\St Tryz.f53.ntmps ⟨[(1,Pt 2 0)],[(2,(48,(cO o_ a1 c1)))]⟩ Z a w X/\Old w0 X0 w X/\RS aB w X a1 o_.Rows c1) ?_ ?_
 ·refine rPe T hS [25] [(28,I (lN o_.Rows)),(29,I 0)] fun a hS=>?_
  refine aQ ?_
  obtain ⟨I1,μ1,cJ,hm⟩:=hm
  refine cH (σ:=Int) (fun s a w=>∃ Z X,I1 s/\St Tryz.f53.ntmps ⟨[(1,Pt 2 0),(28,I (lN o_.Rows)),(29,I s)],[(2,(48,(cO o_ a1 c1)))]⟩ Z a w X/\Old w0 X0 w X/\RS aB w X a1 o_.Rows c1) (fun s=>μ1 s) (0) ?_ ?_
  ·exact ⟨Z,_,cJ,hS.sl _,hO,h102⟩
  rintro fV a DS ⟨Z,sf,hI,hS,hO,h105⟩
  replace hm:=hm fV hI
  clear hI cJ
  refine rPe T hS [] [(30,B (decide (fV < (lN o_.Rows))))] fun a hS=>?_
  refine bh ?_
  refine aI hS (b:=decide (fV < (lN o_.Rows))) kr (fun hb=>?_) fun hb=>?_
  ·replace hm:=hm.1 hb
   refine aO (bh ?_)
   refine aQ ?_
   refine rPe T hS [30] [(4,I fV)] fun a hS=>?_
   refine br ?_
   refine oPe T hS 2 [] [(32,V (.agg #[.int .i64 o_.au,.int .i64 o_.aA,.int .i64 o_.aH,.slice a1 o_.Rows.length c1])),(33,I fV)] fun a hS=>?_
   obtain ⟨hq,hm⟩:=hm
   refine op1 (call hS kr kr hb82 kr (fun _ _=>rfl) (Lg _ _ o_ fV a1 c1 hq h105) ?_)
   intro v106 a qn pC hE hp hS
   replace hO:=hO.m2 hE
   replace h105:=h105.m1 hE
   obtain ⟨jj,hr⟩:∃ r,iC o_ fV=r:=⟨_,rfl⟩
   replace hm:=hm jj hr
   rw [hr] at hp
   clear hr
   subst hp
   refine ePe T hS [32,33,34] [(5,I jj)] fun a hS=>?_
   refine rPe T hS [] [(36,B (jj != 0))] fun a hS=>?_
   refine aI hS (b:=(jj != 0)) kr (fun hb=>?_) fun hb=>?_
   ·replace hm:=hm.1 hb
    refine rP T hS ⟨[(2,I fV),(3,I jj)],[]⟩ fun a hS=>?_
    refine ba ?_
    exact fin T hS hO (fun c=>c) rfl (r:=[.int .i64 fV,.int .i64 jj]) kr (fun X' hM hC=>⟨(fV,jj),hm,rfl⟩)
   replace hm:=hm.2 hb
   refine aO ?_
   refine region (ePe T hS [4,5,36] [(29,I (wR (fV+1)))] fun a hS=>?_)
   exact ⟨wR (fV+1),⟨Z,_,hm.1,hS.sl _,hO,h105⟩,hm.2⟩
  replace hm:=hm.2 hb
  refine cu (by rfl) ?_
  exact ⟨Z,_,hm,hS.sl _,hO,h105⟩
 rintro a xi ⟨Z,uN,hm,hS,hO,h103⟩
 unfold VC53_J2 at hm
 refine rP T hS ⟨[(2,I (lN o_.Rows)),(3,I 0)],[]⟩ fun a hS=>?_
 refine ba ?_
 exact fin T hS hO (fun c=>c) rfl (r:=[.int .i64 (lN o_.Rows),.int .i64 0]) kr (fun X' hM hC=>⟨((lN o_.Rows),0),hm,rfl⟩)
theorem C53 (Bg:S81) (Lg:S82) (v:∀ (o_:ao),kJ o_->VC53 o_ (fun r=>r=bA o_)):S53:=by
 intro w X o_ a1 c1   hp h1
 refine (W53 Bg Lg w X o_ a1 c1   _ (v o_ hp) h1).mono ?_
 rintro _ _ _ _ ⟨r,rfl,h⟩
 exact h
theorem W85 (ui:S53) (w0) (X0) (o_:ao) (state:Int) (a1) (c1) (Q:Int->Prop) (hm:VC85 o_ state Q) (h1:RS aB w0 X0 a1 o_.Rows c1) :
  Ret Tryz.prog 85 #[.agg #[.int .i64 o_.au,.int .i64 o_.aA,.int .i64 o_.aH,.slice a1 o_.Rows.length c1],.int .i64 state] aM w0 X0 (fun w X' v=>∃ r,Q r/\v=.int .i64 r):=by
 unfold VC85 at hm
 replace hm:=hm (h1.sm kr)
 refine enter Tryz.func85 rfl (vals:=[.agg #[.int .i64 o_.au,.int .i64 o_.aA,.int .i64 o_.aH,.slice a1 o_.Rows.length c1],.int .i64 state]) kr ?_
 intro Z a hS hO hM
 replace h1:=h1.m0 hM
 refine rM T hS ⟨[(1,I state),(2,Pt 3 0)],[(3,(48,(cO o_ a1 c1)))]⟩ fun Z a nA mh hS hE hr=>?_
 replace hO:=hO.m2 hE
 replace h1:=h1.m1 hE
 clear hE hr
 refine bh ?_
 refine br ?_
 refine oPe T hS 1 [] [(8,V (.agg #[.int .i64 o_.au,.int .i64 o_.aA,.int .i64 o_.aH,.slice a1 o_.Rows.length c1]))] fun a hS=>?_
 obtain ⟨hq,hm⟩:=hm
 refine op1 (call hS kr kr hb53 kr (fun _ _=>rfl) (ui _ _ o_ a1 c1 hq h1) ?_)
 intro v101 a fH fK hE hp hS
 replace hO:=hO.m2 hE
 replace h1:=h1.m1 hE
 obtain ⟨ay,hr⟩:∃ r,bA o_=r:=⟨_,rfl⟩
 replace hm:=hm ay hr
 rw [hr] at hp
 clear hr
 subst hp
 refine ePe T hS [8,9] [(6,I ay.2)] fun a hS=>?_
 refine rPe T hS [6] [(13,B (ay.2 != 0))] fun a hS=>?_
 refine aI hS (b:=(ay.2 != 0)) kr (fun hb=>?_) fun hb=>?_
 ·replace hm:=hm.1 hb
  refine rP T hS ⟨[(4,I 2)],[]⟩ fun a hS=>?_
  refine ba ?_
  exact fin T hS hO (fun c=>c) rfl (r:=[.int .i64 2]) kr (fun X' hM hC=>⟨2,hm,rfl⟩)
 replace hm:=hm.2 hb
 refine aO (bh ?_)
 refine rP T hS ⟨[(21,B ((decide (state < 0)) || (decide (state≥o_.au))))],[]⟩ (sp:=[16]) fun a hS=>?_
 refine aI hS (b:=((decide (state < 0)) || (decide (state≥o_.au)))) kr (fun hb=>?_) fun hb=>?_
 ·replace hm:=hm.1 hb
  refine rPe T hS [21] [(4,I 30)] fun a hS=>?_
  refine ba ?_
  exact fin T hS hO (fun c=>c) rfl (r:=[.int .i64 30]) kr (fun X' hM hC=>⟨30,hm,rfl⟩)
 replace hm:=hm.2 hb
 refine aO ?_
 refine rPe T hS [21] [(4,I 0)] fun a hS=>?_
 refine ba ?_
 exact fin T hS hO (fun c=>c) rfl (r:=[.int .i64 0]) kr (fun X' hM hC=>⟨0,hm,rfl⟩)
theorem C85 (ui:S53) (v:∀ (o_:ao) (state:Int),yT o_ state->VC85 o_ state (fun r=>r=fY o_ state)):S85:=by
 intro w X o_ state a1 c1   hp h1
 refine (W85 ui w X o_ state a1 c1   _ (v o_ state hp) h1).mono ?_
 rintro _ _ _ _ ⟨r,rfl,h⟩
 exact h
theorem W86 (w0) (X0) (o_:ao) (l_:List ab) (state:Int) (a1) (c1) (a2) (c2) (cM) (dU) (jD) (po) (pn) (Q:(List ab) × (List (Int × Int)) × ao × Int->Prop) (hm:VC86 o_ l_ state Q) (h1:RS aB w0 X0 a1 o_.Rows c1) (h2:RS ar w0 X0 a2 l_ c2) :
  Ret Tryz.prog 86 #[.agg #[.int .i64 o_.au,.int .i64 o_.aA,.int .i64 o_.aH,.slice a1 o_.Rows.length c1],.slice a2 l_.length c2,.int .i64 state] aM w0 X0 (fun w X' v=>∃ r,Q r/\∃ cQ cN Ia pK pJ vh Ih Ig Ie,v=.func (.func 97) #[] #[.pointer (some ⟨vh,0,none⟩),.pointer (some ⟨Ih,0,none⟩),.pointer (some ⟨Ig,0,none⟩),.pointer (some ⟨Ie,0,none⟩)]/\RS ar w X' cQ r.1 cN/\RS aB w X' pK r.2.2.1.Rows pJ/\Cell w X' vh dU 42 [.slice cQ r.1.length cN]/\Cell w X' Ih jD 113 [.map (some Ia)]/\OM kI tI false w X' cM Ia r.2.1/\Cell w X' Ig po 48 [.int .i64 r.2.2.1.au,.int .i64 r.2.2.1.aA,.int .i64 r.2.2.1.aH,.slice pK r.2.2.1.Rows.length pJ]/\Cell w X' Ie pn 3 [.int .i64 r.2.2.2]):=by
 unfold VC86 at hm
 replace hm:=hm (h1.sm kr)
 replace hm:=hm (h2.sm kr)
 refine enter Tryz.func86 rfl (vals:=[.agg #[.int .i64 o_.au,.int .i64 o_.aA,.int .i64 o_.aH,.slice a1 o_.Rows.length c1],.slice a2 l_.length c2,.int .i64 state]) kr ?_
 intro Z a hS hO hM
 replace h1:=h1.m0 hM
 replace h2:=h2.m0 hM
 refine rM T hS ⟨[(3,Pt 4 0),(4,Pt 5 0),(5,Pt 6 0)],[(4,(48,(cO o_ a1 c1))),(5,(42,[Sl a2 l_ c2])),(6,(3,[I state]))]⟩ fun Z a qn pC hS hE hr=>?_
 replace hO:=hO.m2 hE
 replace h1:=h1.m1 hE
 replace h2:=h2.m1 hE
 clear hE hr
 refine br ?_
 refine op1 (pM kI tI false 1009 hS kr kr ?_)
 intro dY a fH fK hE h104 hS
 replace hO:=hO.m2 hE
 replace h1:=h1.m1 hE
 replace h2:=h2.m1 hE
 refine eM T hS ⟨[(3,Pt 4 0),(4,Pt 5 0),(5,Pt 6 0),(7,Pt 8 0)],[(4,(48,(cO o_ a1 c1))),(5,(42,[Sl a2 l_ c2])),(6,(3,[I state])),(8,(113,[V (.map (some dY))]))]⟩ fun Z a nA mh hS hE hr=>?_
 replace hO:=hO.m2 hE
 replace h1:=h1.m1 hE
 replace h2:=h2.m1 hE
 replace h104:=h104.m2 hE
 clear hE hr
 refine rPe T hS [3,4,5,7] [(6,.f (.func 97) [] [.p 5 0,.p 8 0,.p 4 0,.p 6 0])] fun a hS=>?_
 refine ba ?_
 exact fin T hS hO (zAa0 pn po jD dU cM) rfl (r:=[.func (.func 97) #[] #[.pointer (some ⟨Z 5,0,none⟩),.pointer (some ⟨Z 8,0,none⟩),.pointer (some ⟨Z 4,0,none⟩),.pointer (some ⟨Z 6,0,none⟩)]]) kr (fun X' hM hC=>⟨(l_,([]:List (Int × Int)),o_,state),hm,a2,c2,dY,a1,c1,(Z 5),(Z 8),(Z 4),(Z 6),rfl,h2.m0 hM,h1.m0 hM,((hS.cell (id:=5) (t:=42) (cs:=[Sl a2 l_ c2]) kr).out (f:=(zAa0 pn po jD dU cM)) hC kr kr rfl),((hS.cell (id:=8) (t:=113) (cs:=[V (.map (some dY))]) kr).out (f:=(zAa0 pn po jD dU cM)) hC kr kr rfl),(h104.out (f:=(zAa0 pn po jD dU cM)) hM hC kr kr),((hS.cell (id:=4) (t:=48) (cs:=(cO o_ a1 c1)) kr).out (f:=(zAa0 pn po jD dU cM)) hC kr kr rfl),((hS.cell (id:=6) (t:=3) (cs:=[I state]) kr).out (f:=(zAa0 pn po jD dU cM)) hC kr kr rfl)⟩)
theorem C86 (v:∀ (o_:ao) (l_:List ab) (state:Int),VC86 o_ l_ state (fun r=>r=en o_ l_ state)):S86:=by
 intro w X o_ l_ state a1 c1 a2 c2 cM dU jD po pn  h1 h2
 refine (W86 w X o_ l_ state a1 c1 a2 c2 cM dU jD po pn  _ (v o_ l_ state) h1 h2).mono ?_
 rintro _ _ _ _ ⟨r,rfl,h⟩
 exact h
theorem W110 (w0) (X0) (r_:bc) (aq:Int) (ax:Int) (b1) (i1) (b2) (i2) (Q:Bool->Prop) (hm:VC110 r_ aq ax Q) (fF:Cell w0 X0 b1 i1 3 [.int .i64 aq]) (g8:Cell w0 X0 b2 i2 3 [.int .i64 ax]) (hA:dS [i1,i2]) :
  Ret Tryz.prog 110 #[.agg #[.int .i64 r_.State,.int .i64 r_.Kind,.int .i64 r_.Next,.int .i64 r_.Result],.pointer (some ⟨b1,0,none⟩),.pointer (some ⟨b2,0,none⟩)] (pR [i1,i2]) w0 X0 (fun w X' v=>∃ r,Q r/\v=.bool r/\Cell w X' b1 i1 3 [.int .i64 aq]/\Cell w X' b2 i2 3 [.int .i64 ax]):=by
 unfold VC110 at hm
 refine fT Tryz.func110 rfl (dH [(i1,901),(i2,902)]) (fun id=>(bif Nat.beq id 901 then b1 else (bif Nat.beq id 902 then b2 else 0))) (args:=[V (.agg #[.int .i64 r_.State,.int .i64 r_.Kind,.int .i64 r_.Next,.int .i64 r_.Result]),Pt 901 0,Pt 902 0]) (bxs:=[(901,(3,[I aq])),(902,(3,[I ax]))]) kr rfl (bq.cons kr (fF.map (bQ 0 hA.1 rfl)) (bq.cons kr (g8.map (bQ 1 hA.1 rfl)) bq.nil)) (fJ (fun q hq=>(hA.2 q.1 (List.mem_map.2 ⟨q,hq,rfl⟩)).1)) ?_
 intro a hS hO hM
 have hP:Pin [(901,b1),(902,b2)] (fun id=>(bif Nat.beq id 901 then b1 else (bif Nat.beq id 902 then b2 else 0))):=by intro q hq; simp at hq; rcases hq with rfl | rfl <;> rfl
 generalize (fun id=>(bif Nat.beq id 901 then b1 else (bif Nat.beq id 902 then b2 else 0)))=Z at hS hP
 clear fF g8
 refine rM T hS ⟨[(1,Pt 901 0),(2,Pt 902 0),(3,Pt 4 0)],[(4,(107,(cR r_))),(901,(3,[I aq])),(902,(3,[I ax]))]⟩ fun Z a oX pE hS hE hr=>?_
 replace hO:=hO.m2 hE
 replace hP:=hP.mv hr kr
 clear hE hr
 refine br ?_
 refine oP T hS 8 ⟨[(5,V (.agg #[.int .i64 r_.State,.int .i64 r_.Kind,.int .i64 r_.Next,.int .i64 r_.Result])),(12,V (.agg #[.int .i64 aq,.int .i64 ax,.int .i64 r_.Next,.int .i64 r_.Result]))],[(901,(3,[I aq])),(902,(3,[I ax]))]⟩ fun a hS=>?_
 refine op1 (structEq (op:=.eql) (xs:=[.int .i64 r_.State,.int .i64 r_.Kind,.int .i64 r_.Next,.int .i64 r_.Result]) (ys:=[.int .i64 aq,.int .i64 ax,.int .i64 r_.Next,.int .i64 r_.Result]) (r:=(r_.State == aq && (r_.Kind == ax && (r_.Next == r_.Next && (r_.Result == r_.Result && true))))) (b:=(r_.State == aq && (r_.Kind == ax && (r_.Next == r_.Next && (r_.Result == r_.Result && true))))) T hS kr kr kr kr kr kr kr kr ?_)
 intro a hS
 refine ePe T hS [5,12,13] [(4,B (r_.State == aq && (r_.Kind == ax && (r_.Next == r_.Next && (r_.Result == r_.Result && true)))))] fun a hS=>?_
 refine ba ?_
 exact g9 T hS hO (fun c h=>bZ kr h) (fun c h=>b0 (l:=[(i1,901),(i2,902)]) h) (bT [(i1,901),(i2,902)]) rfl (r:=[.bool (r_.State == aq && (r_.Kind == ax && (r_.Next == r_.Next && (r_.Result == r_.Result && true))))]) kr (fun X' hM hC=>⟨(r_.State == aq && (r_.Kind == ax && (r_.Next == r_.Next && (r_.Result == r_.Result && true)))),hm,rfl,((hS.cell (id:=901) (t:=3) (cs:=[I aq]) kr).out (f:=(bT [(i1,901),(i2,902)])) hC kr kr (hP.at 0 rfl)),((hS.cell (id:=902) (t:=3) (cs:=[I ax]) kr).out (f:=(bT [(i1,901),(i2,902)])) hC kr kr (hP.at 1 rfl))⟩)
theorem C110 (v:∀ (r_:bc) (aq:Int) (ax:Int),VC110 r_ aq ax (fun r=>r=gJ r_ aq ax)):S110:=by
 intro w X r_ aq ax   b1 i1 b2 i2 fF g8 hA
 refine (W110 w X r_ aq ax   b1 i1 b2 i2 _ (v r_ aq ax) fF g8 hA).mono ?_
 rintro _ _ _ _ ⟨r,rfl,h⟩
 exact h
theorem W111_110 (GB:S110) (w0) (X0) (s_:List bc) (aq:Int) (ax:Int) (a1) (c1) (b1) (i1) (b2) (i2) (Q:Int->Prop) (hm:VC111_110 s_ aq ax Q) (h1:RS aB w0 X0 a1 s_ c1) (fF:Cell w0 X0 b1 i1 3 [.int .i64 aq]) (g8:Cell w0 X0 b2 i2 3 [.int .i64 ax]) (hA:dS [i1,i2]) :
  Ret Tryz.prog 111 #[.slice a1 s_.length c1,.func (.func 110) #[] #[.pointer (some ⟨b1,0,none⟩),.pointer (some ⟨b2,0,none⟩)]] (pR [i1,i2]) w0 X0 (fun w X' v=>∃ r,Q r/\v=.int .i64 r/\Cell w X' b1 i1 3 [.int .i64 aq]/\Cell w X' b2 i2 3 [.int .i64 ax]):=by
 unfold VC111_110 at hm
 replace hm:=hm (h1.sm kr)
 refine fT Tryz.func111 rfl (dH [(i1,901),(i2,902)]) (fun id=>(bif Nat.beq id 901 then b1 else (bif Nat.beq id 902 then b2 else 0))) (args:=[Sl a1 s_ c1,.f (.func 110) [] [.p 901 0,.p 902 0]]) (bxs:=[(901,(3,[I aq])),(902,(3,[I ax]))]) kr rfl (bq.cons kr (fF.map (bQ 0 hA.1 rfl)) (bq.cons kr (g8.map (bQ 1 hA.1 rfl)) bq.nil)) (fJ (fun q hq=>(hA.2 q.1 (List.mem_map.2 ⟨q,hq,rfl⟩)).1)) ?_
 intro a hS hO hM
 have hP:Pin [(901,b1),(902,b2)] (fun id=>(bif Nat.beq id 901 then b1 else (bif Nat.beq id 902 then b2 else 0))):=by intro q hq; simp at hq; rcases hq with rfl | rfl <;> rfl
 generalize (fun id=>(bif Nat.beq id 901 then b1 else (bif Nat.beq id 902 then b2 else 0)))=Z at hS hP
 clear fF g8
 replace h1:=h1.m0 hM
 refine rPe T hS [] [] fun a hS=>?_
 refine cb (fun a w=>∃ Z X,VC111_110_J1 Q/\St Tryz.f111.ntmps ⟨[],[(901,(3,[I aq])),(902,(3,[I ax]))]⟩ Z a w X/\gq (dH [(i1,901),(i2,902)]) w0 X0 w X/\Pin [(901,b1),(902,b2)] Z) ?_ ?_
 ·refine rPe T hS [] [(7,I (lN s_)),(8,I 0)] fun a hS=>?_
  refine aQ ?_
  obtain ⟨I1,μ1,cJ,hm⟩:=hm
  refine cH (σ:=Int) (fun s a w=>∃ Z X,I1 s/\St Tryz.f111.ntmps ⟨[(0,Sl a1 s_ c1),(1,.f (.func 110) [] [.p 901 0,.p 902 0]),(7,I (lN s_)),(8,I s)],[(901,(3,[I aq])),(902,(3,[I ax]))]⟩ Z a w X/\gq (dH [(i1,901),(i2,902)]) w0 X0 w X/\Pin [(901,b1),(902,b2)] Z/\RS aB w X a1 s_ c1) (fun s=>μ1 s) (0) ?_ ?_
  ·exact ⟨Z,_,cJ,hS.sl _,hO,hP,h1⟩
  rintro bB a xi ⟨Z,uN,hI,hS,hO,hP,h101⟩
  replace hm:=hm bB hI
  clear hI cJ
  refine rPe T hS [] [(9,B (decide (bB < (lN s_))))] fun a hS=>?_
  refine bh ?_
  refine aI hS (b:=decide (bB < (lN s_))) kr (fun hb=>?_) fun hb=>?_
  ·replace hm:=hm.1 hb
   refine aO (bh ?_)
   refine aQ ?_
   refine rPe T hS [9] [(5,I bB)] fun a hS=>?_
   refine br ?_
   refine oPe T hS 3 [] [(11,.f (.func 110) [] [.p 901 0,.p 902 0]),(12,Sl a1 s_ c1),(13,I bB)] fun a hS=>?_
   obtain ⟨hq,hm⟩:=hm
   refine op1 (index (e:=107) (k:=.i64) T hS kr kr kr kr h101 kr kr hq.1 hq.2 ?_)
   intro uP a h104 hS
   refine op1 (eS T hS kr kr kr h104 kr kr ?_)
   intro v105 a hv hS
   subst hv
   refine op1 (ko (fi:=[]) (cp:=[.p 901 0,.p 902 0]) hS kr kr hb110 kr kr (GB _ _ (gi s_ bB) aq ax (Z 901) 901 (Z 902) 902 (hS.cell (id:=901) (t:=3) (cs:=[I aq]) kr) (hS.cell (id:=902) (t:=3) (cs:=[I ax]) kr) ⟨by decide,by decide⟩) ?_)
   intro v106 a qn pC hE hp hS
   replace hO:=hO.m2 hE
   replace h101:=h101.m1 hE
   replace h104:=h104.m1 hE
   obtain ⟨hp,vQ,vP⟩:=hp
   obtain ⟨jj,hr⟩:∃ r,gJ (gi s_ bB) aq ax=r:=⟨_,rfl⟩
   replace hm:=hm jj hr
   rw [hr] at hp
   clear hr
   subst hp
   replace hS:=hS.cI (id:=901) (t:=3) (cs:=[I aq]) kr vQ
   replace hS:=hS.cI (id:=902) (t:=3) (cs:=[I ax]) kr vP
   clear vQ vP
   refine iy ?_
   refine aI hS (b:=jj) kr (fun hb=>?_) fun hb=>?_
   ·replace hm:=hm.1 hb
    refine rPe T hS [0,1,5,7,8,16] [(4,I bB)] fun a hS=>?_
    refine ba ?_
    exact g9 T hS hO (fun c h=>bZ kr h) (fun c h=>b0 (l:=[(i1,901),(i2,902)]) h) (bT [(i1,901),(i2,902)]) rfl (r:=[.int .i64 bB]) kr (fun X' hM hC=>⟨bB,hm,rfl,((hS.cell (id:=901) (t:=3) (cs:=[I aq]) kr).out (f:=(bT [(i1,901),(i2,902)])) hC kr kr (hP.at 0 rfl)),((hS.cell (id:=902) (t:=3) (cs:=[I ax]) kr).out (f:=(bT [(i1,901),(i2,902)])) hC kr kr (hP.at 1 rfl))⟩)
   replace hm:=hm.2 hb
   refine aO ?_
   refine region (ePe T hS [5,16] [(8,I (wR (bB+1)))] fun a hS=>?_)
   exact ⟨wR (bB+1),⟨Z,_,hm.1,hS.sl _,hO,hP,h101⟩,hm.2⟩
  replace hm:=hm.2 hb
  refine cu (by rfl) ?_
  exact ⟨Z,_,hm,hS.sl _,hO,hP⟩
 rintro a pY ⟨Z,yu,hm,hS,hO,hP⟩
 unfold VC111_110_J1 at hm
 refine rPe T hS [] [(4,I (-1))] fun a hS=>?_
 refine ba ?_
 exact g9 T hS hO (fun c h=>bZ kr h) (fun c h=>b0 (l:=[(i1,901),(i2,902)]) h) (bT [(i1,901),(i2,902)]) rfl (r:=[.int .i64 (-1)]) kr (fun X' hM hC=>⟨(-1),hm,rfl,((hS.cell (id:=901) (t:=3) (cs:=[I aq]) kr).out (f:=(bT [(i1,901),(i2,902)])) hC kr kr (hP.at 0 rfl)),((hS.cell (id:=902) (t:=3) (cs:=[I ax]) kr).out (f:=(bT [(i1,901),(i2,902)])) hC kr kr (hP.at 1 rfl))⟩)
theorem C111_110 (GB:S110) (v:∀ (s_:List bc) (aq:Int) (ax:Int),VC111_110 s_ aq ax (fun r=>r=bl s_ aq ax)):S111_110:=by
 intro w X s_ aq ax a1 c1  b1 i1 b2 i2 h1 fF g8 hA
 refine (W111_110 GB w X s_ aq ax a1 c1  b1 i1 b2 i2 _ (v s_ aq ax) h1 fF g8 hA).mono ?_
 rintro _ _ _ _ ⟨r,rfl,h⟩
 exact h
theorem W103 (rf:S111_110) (w0) (X0) (o_:ao) (state:Int) (kind:Int) (a1) (c1) (Q:Int × Int × Bool->Prop) (hm:VC103 o_ state kind Q) (h1:RS aB w0 X0 a1 o_.Rows c1) :
  Ret Tryz.prog 103 #[.agg #[.int .i64 o_.au,.int .i64 o_.aA,.int .i64 o_.aH,.slice a1 o_.Rows.length c1],.int .i64 state,.int .i64 kind] aM w0 X0 (fun w X' v=>∃ r,Q r/\v=.tuple #[.int .i64 r.1,.int .i64 r.2.1,.bool r.2.2]):=by
 unfold VC103 at hm
 replace hm:=hm (h1.sm kr)
 refine enter Tryz.func103 rfl (vals:=[.agg #[.int .i64 o_.au,.int .i64 o_.aA,.int .i64 o_.aH,.slice a1 o_.Rows.length c1],.int .i64 state,.int .i64 kind]) kr ?_
 intro Z a hS hO hM
 replace h1:=h1.m0 hM
 refine rM T hS ⟨[(3,Pt 4 0),(4,Pt 5 0),(5,Pt 6 0)],[(4,(48,(cO o_ a1 c1))),(5,(3,[I state])),(6,(3,[I kind]))]⟩ fun Z a xh Dg hS hE hr=>?_
 replace hO:=hO.m2 hE
 replace h1:=h1.m1 hE
 clear hE hr
 refine rPe T hS [4,5] [(9,.f (.func 110) [] [.p 5 0,.p 6 0])] fun a hS=>?_
 refine br ?_
 refine oPe T hS 3 [9] [(13,Sl a1 o_.Rows c1),(14,.f (.func 110) [] [.p 5 0,.p 6 0])] fun a hS=>?_
 refine op1 (l9 hS kr kr hb111 kr (rf _ _ o_.Rows state kind a1 c1 (Z 5) 5 (Z 6) 6 h1 (hS.cell (id:=5) (t:=3) (cs:=[I state]) kr) (hS.cell (id:=6) (t:=3) (cs:=[I kind]) kr) ⟨by decide,by decide⟩) ?_)
 intro v101 a fH fK hE hp hS
 replace hO:=hO.m2 hE
 replace h1:=h1.m1 hE
 obtain ⟨hp,vS,vR⟩:=hp
 obtain ⟨ay,hr⟩:∃ r,bl o_.Rows state kind=r:=⟨_,rfl⟩
 replace hm:=hm ay hr
 rw [hr] at hp
 clear hr
 subst hp
 replace hS:=hS.cI (id:=5) (t:=3) (cs:=[I state]) kr vS
 replace hS:=hS.cI (id:=6) (t:=3) (cs:=[I kind]) kr vR
 clear vS vR
 refine eP T hS ⟨[(3,Pt 4 0),(10,I ay)],[(4,(48,(cO o_ a1 c1)))]⟩ fun a hS=>?_
 refine bh ?_
 refine rPe T hS [] [(17,B (decide (ay < 0)))] fun a hS=>?_
 refine aI hS (b:=decide (ay < 0)) kr (fun hb=>?_) fun hb=>?_
 ·replace hm:=hm.1 hb
  refine rP T hS ⟨[(6,I 0),(7,I 0),(8,B false)],[]⟩ fun a hS=>?_
  refine ba ?_
  exact fin T hS hO (fun c=>c) rfl (r:=[.int .i64 0,.int .i64 0,.bool false]) kr (fun X' hM hC=>⟨(0,0,false),hm,rfl⟩)
 replace hm:=hm.2 hb
 refine aO ?_
 refine dB [4] mixed hS ?_
 intro qn pC hS hE hD hH
 replace hO:=hO.m2 hE
 replace h1:=h1.m1 hE
 refine tke T [0,2,6,8,1,7] [4] hS hH #[true,true,true,false,false,false,true,true,true,false,false,false,false,false,false] 9 [3,10] [(19,Sl a1 o_.Rows c1),(20,I ay),(25,Sl a1 o_.Rows c1),(26,I ay)] fun a hS=>?_
 obtain ⟨hq,hm⟩:=hm
 refine dg (e:=107) (k:=.i64) T 3 hS kr kr kr (by rfl) kr hH kr kr h1 kr kr hq.1 hq.2 ?_
 intro yw a h110 hS
 have lz:=h110.here
 refine dt (off:=2) (fsz:=1) (ft:=3) (TF:=tI) (y:=(gi o_.Rows ay).Next) 4 T hS kr kr kr (by rfl) kr hH kr h110 kr kr kr (fun cs h=>rV h) ?_
 intro Dm a h112 fO hS
 have zF:=lz
 rw [← fO] at zF
 clear fO
 refine dQ T 5 hS kr kr kr (by rfl) kr hH kr h112 zF rfl kr ?_
 intro v113 a hv hS
 cases hv
 refine tke T [12] [4] hS hH #[true,true,true,true,true,true,true,true,true,false,false,false,true,false,false] 5 [19,20,21,22,23] [(6,I ((gi o_.Rows ay).Next))] fun a hS=>?_
 obtain ⟨hq,hm⟩:=hm
 refine dg (e:=107) (k:=.i64) T 9 hS kr kr kr (by rfl) kr hH kr kr h1 kr kr hq.1 hq.2 ?_
 intro ET a h115 hS
 have rq:=h115.here
 refine dt (off:=3) (fsz:=1) (ft:=3) (TF:=tI) (y:=(gi o_.Rows ay).Result) 10 T hS kr kr kr (by rfl) kr hH kr h115 kr kr kr (fun cs h=>rU h) ?_
 intro Hw a h117 fO hS
 have oC:=rq
 rw [← fO] at oC
 clear fO
 refine dQ T 11 hS kr kr kr (by rfl) kr hH kr h117 oC rfl kr ?_
 intro v118 a hv hS
 cases hv
 refine tke T [13,14] [4] hS hH (tts 15) 0 [25,26,27,28,29] [(7,I ((gi o_.Rows ay).Result)),(8,B true)] fun a hS=>?_
 refine aY kr ?_
 replace hS:=hS.sl ⟨[(6,I ((gi o_.Rows ay).Next)),(7,I ((gi o_.Rows ay).Result)),(8,B true)],[]⟩
 refine ba ?_
 exact fin T hS hO (fun c=>c) rfl (r:=[.int .i64 ((gi o_.Rows ay).Next),.int .i64 ((gi o_.Rows ay).Result),.bool true]) kr (fun X' hM hC=>⟨((gi o_.Rows ay).Next,(gi o_.Rows ay).Result,true),hm,rfl⟩)
theorem C103 (rf:S111_110) (v:∀ (o_:ao) (state:Int) (kind:Int),VC103 o_ state kind (fun r=>r=ct o_ state kind)):S103:=by
 intro w X o_ state kind a1 c1   h1
 refine (W103 rf w X o_ state kind a1 c1   _ (v o_ state kind) h1).mono ?_
 rintro _ _ _ _ ⟨r,rfl,h⟩
 exact h
theorem W109 (rh:S103) (w0) (X0) (t_:im) (state:Int) (kind:Int) (a1) (c1) (Q:Int × Int × Bool->Prop) (hm:VC109 t_ state kind Q) (h1:RS aB w0 X0 a1 t_.o.Rows c1) :
  Ret Tryz.prog 109 #[.agg #[.int .i64 t_.o.au,.int .i64 t_.o.aA,.int .i64 t_.o.aH,.slice a1 t_.o.Rows.length c1],.int .i64 state,.int .i64 kind] aM w0 X0 (fun w X' v=>∃ r,Q r/\v=.tuple #[.int .i64 r.1,.int .i64 r.2.1,.bool r.2.2]):=by
 unfold VC109 at hm
 replace hm:=hm (h1.sm kr)
 refine enter Tryz.func109 rfl (vals:=[.agg #[.int .i64 t_.o.au,.int .i64 t_.o.aA,.int .i64 t_.o.aH,.slice a1 t_.o.Rows.length c1],.int .i64 state,.int .i64 kind]) kr ?_
 intro Z a hS hO hM
 replace h1:=h1.m0 hM
 refine rM T hS ⟨[(1,I state),(2,I kind),(3,Pt 4 0)],[(4,(174,(cO t_.o a1 c1)))]⟩ fun Z a nA mh hS hE hr=>?_
 replace hO:=hO.m2 hE
 replace h1:=h1.m1 hE
 clear hE hr
 refine br ?_
 refine oP T hS 4 ⟨[(10,V (.agg #[.int .i64 t_.o.au,.int .i64 t_.o.aA,.int .i64 t_.o.aH,.slice a1 t_.o.Rows.length c1])),(11,I state),(12,I kind)],[]⟩ fun a hS=>?_
 refine op1 (call hS kr kr hb103 kr (fun _ _=>rfl) (rh _ _ t_.o state kind a1 c1 h1) ?_)
 intro v101 a fH fK hE hp hS
 replace hO:=hO.m2 hE
 replace h1:=h1.m1 hE
 obtain ⟨ay,hr⟩:∃ r,ct t_.o state kind=r:=⟨_,rfl⟩
 replace hm:=hm ay hr
 rw [hr] at hp
 clear hr
 subst hp
 refine ePe T hS [10,11,12,13] [(6,I ay.1),(7,I ay.2.1),(8,B ay.2.2)] fun a hS=>?_
 refine ba ?_
 exact fin T hS hO (fun c=>c) rfl (r:=[.int .i64 ay.1,.int .i64 ay.2.1,.bool ay.2.2]) kr (fun X' hM hC=>⟨(ay.1,ay.2.1,ay.2.2),hm,rfl⟩)
theorem C109 (rh:S103) (v:∀ (t_:im) (state:Int) (kind:Int),VC109 t_ state kind (fun r=>r=e6 t_ state kind)):S109:=by
 intro w X t_ state kind a1 c1   h1
 refine (W109 rh w X t_ state kind a1 c1   _ (v t_ state kind) h1).mono ?_
 rintro _ _ _ _ ⟨r,rfl,h⟩
 exact h
theorem W98 (GC:S109) (w0) (X0) (o_:ao) (state:Int) (kind:Int) (result:Int) (a1) (c1) (Q:Int × Int->Prop) (hm:VC98 o_ state kind result Q) (h1:RS aB w0 X0 a1 o_.Rows c1) :
  Ret Tryz.prog 98 #[.agg #[.int .i64 o_.au,.int .i64 o_.aA,.int .i64 o_.aH,.slice a1 o_.Rows.length c1],.int .i64 state,.int .i64 kind,.int .i64 result] aM w0 X0 (fun w X' v=>∃ r,Q r/\v=.tuple #[.int .i64 r.1,.int .i64 r.2]):=by
 unfold VC98 at hm
 replace hm:=hm (h1.sm kr)
 refine enter Tryz.func98 rfl (vals:=[.agg #[.int .i64 o_.au,.int .i64 o_.aA,.int .i64 o_.aH,.slice a1 o_.Rows.length c1],.int .i64 state,.int .i64 kind,.int .i64 result]) kr ?_
 intro Z a hS hO hM
 replace h1:=h1.m0 hM
 refine rM T hS ⟨[(1,I state),(2,I kind),(3,I result),(4,Pt 5 0)],[(5,(48,(cO o_ a1 c1)))]⟩ fun Z a nA mh hS hE hr=>?_
 replace hO:=hO.m2 hE
 replace h1:=h1.m1 hE
 clear hE hr
 refine bh ?_
 refine rPe T hS [] [(20,B ((decide (state < 0)) || (decide (state≥o_.au))))] (sp:=[15]) fun a hS=>?_
 refine aI hS (b:=((decide (state < 0)) || (decide (state≥o_.au)))) kr (fun hb=>?_) fun hb=>?_
 ·replace hm:=hm.1 hb
  refine rP T hS ⟨[(8,I 0),(9,I 30)],[]⟩ fun a hS=>?_
  refine ba ?_
  exact fin T hS hO (fun c=>c) rfl (r:=[.int .i64 0,.int .i64 30]) kr (fun X' hM hC=>⟨(0,30),hm,rfl⟩)
 replace hm:=hm.2 hb
 refine aO ?_
 refine rP T hS ⟨[(1,I state),(2,I kind),(3,I result),(10,.f (.func 109) [.v (.agg #[.int .i64 o_.au,.int .i64 o_.aA,.int .i64 o_.aH,.slice a1 o_.Rows.length c1])] [])],[]⟩ fun a hS=>?_
 refine br ?_
 refine oPe T hS 3 [1,2,10] [(25,.f (.func 109) [.v (.agg #[.int .i64 o_.au,.int .i64 o_.aA,.int .i64 o_.aH,.slice a1 o_.Rows.length c1])] []),(26,I state),(27,I kind)] fun a hS=>?_
 refine op1 (FQ (fi:=[.v (.agg #[.int .i64 o_.au,.int .i64 o_.aA,.int .i64 o_.aH,.slice a1 o_.Rows.length c1])]) (cp:=[]) hS kr kr hb109 kr kr (fun _ _=>rfl) (GC _ _ (⟨o_⟩:im) state kind a1 c1 h1) ?_)
 intro v101 a fH fK hE hp hS
 replace hO:=hO.m2 hE
 replace h1:=h1.m1 hE
 obtain ⟨ay,hr⟩:∃ r,e6 (⟨o_⟩:im) state kind=r:=⟨_,rfl⟩
 replace hm:=hm ay hr
 rw [hr] at hp
 clear hr
 subst hp
 refine ePe T hS [25,26,27,28] [(8,I ay.1),(11,I ay.2.1),(12,B ay.2.2)] fun a hS=>?_
 refine bh ?_
 refine rPe T hS [3,11,12] [(38,B ((!ay.2.2) || (ay.2.1 != result)))] (sp:=[34]) fun a hS=>?_
 refine aI hS (b:=((!ay.2.2) || (ay.2.1 != result))) kr (fun hb=>?_) fun hb=>?_
 ·replace hm:=hm.1 hb
  refine rPe T hS [38] [(8,I 0),(9,I 40)] fun a hS=>?_
  refine ba ?_
  exact fin T hS hO (fun c=>c) rfl (r:=[.int .i64 0,.int .i64 40]) kr (fun X' hM hC=>⟨(0,40),hm,rfl⟩)
 replace hm:=hm.2 hb
 refine aO ?_
 refine rPe T hS [38] [(9,I 0)] fun a hS=>?_
 refine ba ?_
 exact fin T hS hO (fun c=>c) rfl (r:=[.int .i64 ay.1,.int .i64 0]) kr (fun X' hM hC=>⟨(ay.1,0),hm,rfl⟩)
theorem C98 (GC:S109) (v:∀ (o_:ao) (state:Int) (kind:Int) (result:Int),VC98 o_ state kind result (fun r=>r=iU o_ state kind result)):S98:=by
 intro w X o_ state kind result a1 c1   h1
 refine (W98 GC w X o_ state kind result a1 c1   _ (v o_ state kind result) h1).mono ?_
 rintro _ _ _ _ ⟨r,rfl,h⟩
 exact h
theorem W97 (K3:S98) (w0) (X0) (p_:aa) (aq:List ab) (ax:List (Int × Int)) (aP:ao) (bF:Int) (a1) (c1) (r2) (m2) (a3) (c3) (b1) (i1) (b2) (i2) (b3) (i3) (b4) (i4) (Q:Int × Int × (List (Int × Int)) × Int->Prop) (hm:VC97 p_ aq ax aP bF Q) (h1:RS ar w0 X0 a1 aq c1) (h2:OM kI tI false w0 X0 m2 r2 ax) (h3:RS aB w0 X0 a3 aP.Rows c3) (fF:Cell w0 X0 b1 i1 42 [.slice a1 aq.length c1]) (g8:Cell w0 X0 b2 i2 113 [.map (some r2)]) (lT:Cell w0 X0 b3 i3 48 [.int .i64 aP.au,.int .i64 aP.aA,.int .i64 aP.aH,.slice a3 aP.Rows.length c3]) (ur:Cell w0 X0 b4 i4 3 [.int .i64 bF]) (hA:dS [i1,i2,i3,i4,m2]) :
  Ret Tryz.prog 97 #[.agg #[.int .i64 p_.Oper,.int .i64 p_.Result],.pointer (some ⟨b1,0,none⟩),.pointer (some ⟨b2,0,none⟩),.pointer (some ⟨b3,0,none⟩),.pointer (some ⟨b4,0,none⟩)] (pR [i1,i2,i3,i4,m2]) w0 X0 (fun w X' v=>∃ r,Q r/\v=.tuple #[.int .i64 r.1,.int .i64 r.2.1]/\Cell w X' b1 i1 42 [.slice a1 aq.length c1]/\Cell w X' b2 i2 113 [.map (some r2)]/\OM kI tI false w X' m2 r2 r.2.2.1/\Cell w X' b3 i3 48 [.int .i64 aP.au,.int .i64 aP.aA,.int .i64 aP.aH,.slice a3 aP.Rows.length c3]/\Cell w X' b4 i4 3 [.int .i64 r.2.2.2]):=by
 unfold VC97 at hm
 replace hm:=hm (h1.sm kr)
 replace hm:=hm (h3.sm kr)
 refine fT Tryz.func97 rfl (dH (zAa2 i1 i2 i3 i4 m2)) (fun id=>(bif Nat.beq id 901 then b1 else (bif Nat.beq id 902 then b2 else (bif Nat.beq id 903 then b3 else (bif Nat.beq id 904 then b4 else 0))))) (args:=[V (.agg #[.int .i64 p_.Oper,.int .i64 p_.Result]),Pt 901 0,Pt 902 0,Pt 903 0,Pt 904 0]) (bxs:=[(901,(42,[Sl a1 aq c1])),(902,(113,[V (.map (some r2))])),(903,(48,(cO aP a3 c3))),(904,(3,[I bF]))]) kr rfl (bq.cons kr (fF.map (bQ 0 hA.1 rfl)) (bq.cons kr (g8.map (bQ 1 hA.1 rfl)) (bq.cons kr (lT.map (bQ 2 hA.1 rfl)) (bq.cons kr (ur.map (bQ 3 hA.1 rfl)) bq.nil)))) (fJ (fun q hq=>(hA.2 q.1 (List.mem_map.2 ⟨q,hq,rfl⟩)).1)) ?_
 intro a hS hO hM
 have hP:Pin [(901,b1),(902,b2),(903,b3),(904,b4)] (fun id=>(bif Nat.beq id 901 then b1 else (bif Nat.beq id 902 then b2 else (bif Nat.beq id 903 then b3 else (bif Nat.beq id 904 then b4 else 0))))):=by intro q hq; simp at hq; rcases hq with rfl | rfl | rfl | rfl <;> rfl
 generalize (fun id=>(bif Nat.beq id 901 then b1 else (bif Nat.beq id 902 then b2 else (bif Nat.beq id 903 then b3 else (bif Nat.beq id 904 then b4 else 0)))))=Z at hS hP
 clear fF g8 lT ur
 replace h1:=h1.m0 hM
 replace h2:=h2.map (f:=dH (zAa2 i1 i2 i3 i4 m2)) (bQ 4 hA.1 rfl) hM
 replace h3:=h3.m0 hM
 refine rM T hS ⟨[(1,Pt 901 0),(2,Pt 902 0),(3,Pt 903 0),(4,Pt 904 0),(5,Pt 6 0)],[(6,(56,(cK p_))),(901,(42,[Sl a1 aq c1])),(902,(113,[V (.map (some r2))])),(903,(48,(cO aP a3 c3))),(904,(3,[I bF]))]⟩ fun Z a uX uL hS hE hr=>?_
 replace hO:=hO.m2 hE
 replace h1:=h1.m1 hE
 replace h2:=h2.m2 hE
 replace h3:=h3.m1 hE
 replace hP:=hP.mv hr kr
 clear hE hr
 refine bh ?_
 refine aQ ?_
 refine rPe T hS [] [(11,B ((decide (p_.Oper < 0)) || (decide (p_.Oper≥(lN aq)))))] (sp:=[15]) fun a hS=>?_
 refine aI hS (b:=((decide (p_.Oper < 0)) || (decide (p_.Oper≥(lN aq))))) kr (fun hb=>?_) fun hb=>?_
 ·replace hm:=hm.1 hb
  refine rP T hS ⟨[(6,I 0),(7,I 2)],[(901,(42,[Sl a1 aq c1])),(902,(113,[V (.map (some r2))])),(903,(48,(cO aP a3 c3))),(904,(3,[I bF]))]⟩ fun a hS=>?_
  refine ba ?_
  exact g9 T hS hO (fun c h=>bZ kr h) (fun c h=>b0 (l:=(zAa2 i1 i2 i3 i4 m2)) h) (bT (zAa2 i1 i2 i3 i4 m2)) rfl (r:=[.int .i64 0,.int .i64 2]) kr (fun X' hM hC=>⟨(0,2,ax,bF),hm,rfl,((hS.cell (id:=901) (t:=42) (cs:=[Sl a1 aq c1]) kr).out (f:=(bT (zAa2 i1 i2 i3 i4 m2))) hC kr kr (hP.at 0 rfl)),((hS.cell (id:=902) (t:=113) (cs:=[V (.map (some r2))]) kr).out (f:=(bT (zAa2 i1 i2 i3 i4 m2))) hC kr kr (hP.at 1 rfl)),(h2.out (f:=(bT (zAa2 i1 i2 i3 i4 m2))) hM hC kr kr),((hS.cell (id:=903) (t:=48) (cs:=(cO aP a3 c3)) kr).out (f:=(bT (zAa2 i1 i2 i3 i4 m2))) hC kr kr (hP.at 2 rfl)),((hS.cell (id:=904) (t:=3) (cs:=[I bF]) kr).out (f:=(bT (zAa2 i1 i2 i3 i4 m2))) hC kr kr (hP.at 3 rfl))⟩)
 replace hm:=hm.2 hb
 refine br ?_
 refine oPe T hS 3 [11] [(23,V (.map (some r2))),(25,I p_.Oper)] fun a hS=>?_
 refine op1 (kd kI tI false (zv:=.int .i64 0) (z:=0) p_.Oper hS kr kr kr kr Tryz.underlying113 Tryz.underlying3 kr rfl h2 ?_)
 intro v101 a hv hS
 replace hv:tI.R _ _ [v101] _:=hv
 cases hv
 refine ePe T hS [23,25,26] [(22,B (decide (((aF ax p_.Oper).getD 0) > 0)))] fun a hS=>?_
 refine aI hS (b:=decide (((aF ax p_.Oper).getD 0) > 0)) kr (fun hb=>?_) fun hb=>?_
 ·replace hm:=hm.1 hb
  refine rP T hS ⟨[(6,I 0),(7,I 21)],[(901,(42,[Sl a1 aq c1])),(902,(113,[V (.map (some r2))])),(903,(48,(cO aP a3 c3))),(904,(3,[I bF]))]⟩ fun a hS=>?_
  refine ba ?_
  exact g9 T hS hO (fun c h=>bZ kr h) (fun c h=>b0 (l:=(zAa2 i1 i2 i3 i4 m2)) h) (bT (zAa2 i1 i2 i3 i4 m2)) rfl (r:=[.int .i64 0,.int .i64 21]) kr (fun X' hM hC=>⟨(0,21,ax,bF),hm,rfl,((hS.cell (id:=901) (t:=42) (cs:=[Sl a1 aq c1]) kr).out (f:=(bT (zAa2 i1 i2 i3 i4 m2))) hC kr kr (hP.at 0 rfl)),((hS.cell (id:=902) (t:=113) (cs:=[V (.map (some r2))]) kr).out (f:=(bT (zAa2 i1 i2 i3 i4 m2))) hC kr kr (hP.at 1 rfl)),(h2.out (f:=(bT (zAa2 i1 i2 i3 i4 m2))) hM hC kr kr),((hS.cell (id:=903) (t:=48) (cs:=(cO aP a3 c3)) kr).out (f:=(bT (zAa2 i1 i2 i3 i4 m2))) hC kr kr (hP.at 2 rfl)),((hS.cell (id:=904) (t:=3) (cs:=[I bF]) kr).out (f:=(bT (zAa2 i1 i2 i3 i4 m2))) hC kr kr (hP.at 3 rfl))⟩)
 replace hm:=hm.2 hb
 refine aO ?_
 refine br ?_
 refine oPe T hS 3 [2,22] [(28,V (.map (some r2))),(30,I p_.Oper)] fun a hS=>?_
 refine op1 (kd kI tI false (zv:=.int .i64 0) (z:=0) p_.Oper hS kr kr kr kr Tryz.underlying113 Tryz.underlying3 kr rfl h2 ?_)
 intro v102 a hv hS
 replace hv:tI.R _ _ [v102] _:=hv
 cases hv
 refine oPe T hS 1 [31] [(32,I (wR (((aF ax p_.Oper).getD 0)+1)))] fun a hS=>?_
 refine op1 (ue kI tI false (v:=I (wR (((aF ax p_.Oper).getD 0)+1))) (u:=wR (((aF ax p_.Oper).getD 0)+1)) p_.Oper hS kr kr kr kr Tryz.underlying113 Tryz.underlying3 kr h2 rfl ?_)
 intro a KO hE h104 hS
 clear h2
 replace hO:=hO.m2 hE
 replace h1:=h1.m1 hE
 replace h3:=h3.m1 hE
 refine iy ?_
 refine br ?_
 refine oPe T hS 3 [1] [(33,Sl a1 aq c1),(35,I p_.Oper)] fun a hS=>?_
 obtain ⟨hq,hm⟩:=hm
 refine op1 (index (e:=102) (k:=.i64) T hS kr kr kr kr h1 kr kr hq.1 hq.2 ?_)
 intro yx a h106 hS
 refine op1 (eS T hS kr kr kr h106 kr kr ?_)
 intro v107 a hv hS
 subst hv
 refine eM T hS ⟨[(3,Pt 903 0),(4,Pt 904 0),(5,Pt 6 0),(8,Pt 9 0)],[(6,(56,(cK p_))),(9,(102,(cP (gi aq p_.Oper)))),(901,(42,[Sl a1 aq c1])),(902,(113,[V (.map (some r2))])),(903,(48,(cO aP a3 c3))),(904,(3,[I bF]))]⟩ fun Z a Br EO hS hE hr=>?_
 replace hO:=hO.m2 hE
 replace h1:=h1.m1 hE
 replace h3:=h3.m1 hE
 replace h104:=h104.m2 hE
 replace hP:=hP.mv hr kr
 clear hE hr
 refine br ?_
 refine oPe T hS 6 [3] [(39,V (.agg #[.int .i64 aP.au,.int .i64 aP.aA,.int .i64 aP.aH,.slice a3 aP.Rows.length c3])),(40,I bF),(42,I ((gi aq p_.Oper).Kind)),(44,I p_.Result)] fun a hS=>?_
 refine op1 (call hS kr kr hb98 kr (fun _ _=>rfl) (K3 _ _ aP bF ((gi aq p_.Oper).Kind) p_.Result a3 c3 h3) ?_)
 intro v108 a qm sf hE hp hS
 replace hO:=hO.m2 hE
 replace h1:=h1.m1 hE
 replace h3:=h3.m1 hE
 replace h104:=h104.m2 hE
 obtain ⟨bG,hr⟩:∃ r,iU aP bF ((gi aq p_.Oper).Kind) p_.Result=r:=⟨_,rfl⟩
 replace hm:=hm bG hr
 rw [hr] at hp
 clear hr
 subst hp
 refine ePe T hS [39,40,42,44,45] [(9,I bG.1),(10,I bG.2)] fun a hS=>?_
 refine cb (fun a w=>∃ (Z:Nat->Nat) (X:Nat->Nat) (cZ:Int),VC97_J1 p_ ax bF Q bG cZ/\St Tryz.f97.ntmps ⟨[(4,Pt 904 0),(9,I bG.1),(10,I cZ)],[(901,(42,[Sl a1 aq c1])),(902,(113,[V (.map (some r2))])),(903,(48,(cO aP a3 c3))),(904,(3,[I bF]))]⟩ Z a w X/\gq (dH (zAa2 i1 i2 i3 i4 m2)) w0 X0 w X/\Pin [(901,b1),(902,b2),(903,b3),(904,b4)] Z/\RS ar w X a1 aq c1/\OM kI tI false w X 2002 r2 (dp ax p_.Oper (wR (((aF ax p_.Oper).getD 0)+1)))/\RS aB w X a3 aP.Rows c3) ?_ ?_
 ·refine rP T hS ⟨[(4,Pt 904 0),(9,I bG.1),(10,I bG.2),(61,B (((bG.2 == 0) && (((gi aq p_.Oper).End) != (-1))) && (((gi aq p_.Oper).Result) != p_.Result)))],[(901,(42,[Sl a1 aq c1])),(902,(113,[V (.map (some r2))])),(903,(48,(cO aP a3 c3))),(904,(3,[I bF]))]⟩ (sp:=[50,55]) fun a hS=>?_
  refine aI hS (b:=(((bG.2 == 0) && (((gi aq p_.Oper).End) != (-1))) && (((gi aq p_.Oper).Result) != p_.Result))) kr (fun hb=>?_) fun hb=>?_
  ·replace hm:=hm.1 hb
   refine region (ePe T hS [61] [(10,I 40)] fun a hS=>?_)
   exact ⟨Z,_,40,hm,hS.sl _,hO,hP,h1,h104,h3⟩
  replace hm:=hm.2 hb
  refine aO ?_
  exact ⟨Z,_,bG.2,hm,hS.sl _,hO,hP,h1,h104,h3⟩
 rintro a xh ⟨Z,EP,cZ,hm,hS,hO,hP,h113,h114,h115⟩
 unfold VC97_J1 at hm
 refine bh ?_
 refine rPe T hS [] [(63,B (cZ != 0))] fun a hS=>?_
 refine aI hS (b:=(cZ != 0)) kr (fun hb=>?_) fun hb=>?_
 ·replace hm:=hm.1 hb
  refine rPe T hS [4,9,10,63] [(6,I 0),(7,I cZ)] fun a hS=>?_
  refine ba ?_
  exact g9 T hS hO (fun c h=>bZ kr h) (fun c h=>b0 (l:=(zAa2 i1 i2 i3 i4 m2)) h) (bT (zAa2 i1 i2 i3 i4 m2)) rfl (r:=[.int .i64 0,.int .i64 cZ]) kr (fun X' hM hC=>⟨(0,cZ,dp ax p_.Oper (wR (((aF ax p_.Oper).getD 0)+1)),bF),hm,rfl,((hS.cell (id:=901) (t:=42) (cs:=[Sl a1 aq c1]) kr).out (f:=(bT (zAa2 i1 i2 i3 i4 m2))) hC kr kr (hP.at 0 rfl)),((hS.cell (id:=902) (t:=113) (cs:=[V (.map (some r2))]) kr).out (f:=(bT (zAa2 i1 i2 i3 i4 m2))) hC kr kr (hP.at 1 rfl)),(h114.out (f:=(bT (zAa2 i1 i2 i3 i4 m2))) hM hC kr kr),((hS.cell (id:=903) (t:=48) (cs:=(cO aP a3 c3)) kr).out (f:=(bT (zAa2 i1 i2 i3 i4 m2))) hC kr kr (hP.at 2 rfl)),((hS.cell (id:=904) (t:=3) (cs:=[I bF]) kr).out (f:=(bT (zAa2 i1 i2 i3 i4 m2))) hC kr kr (hP.at 3 rfl))⟩)
 replace hm:=hm.2 hb
 refine aO ?_
 refine rM T hS ⟨[(9,I bG.1)],[(901,(42,[Sl a1 aq c1])),(902,(113,[V (.map (some r2))])),(903,(48,(cO aP a3 c3))),(904,(3,[I bG.1]))]⟩ fun Z a uY yq hS hE hr=>?_
 replace hO:=hO.m2 hE
 replace h113:=h113.m1 hE
 replace h114:=h114.m2 hE
 replace h115:=h115.m1 hE
 replace hP:=hP.mv hr kr
 clear hE hr
 refine rPe T hS [9] [(6,I bG.1),(7,I 0)] fun a hS=>?_
 refine ba ?_
 exact g9 T hS hO (fun c h=>bZ kr h) (fun c h=>b0 (l:=(zAa2 i1 i2 i3 i4 m2)) h) (bT (zAa2 i1 i2 i3 i4 m2)) rfl (r:=[.int .i64 bG.1,.int .i64 0]) kr (fun X' hM hC=>⟨(bG.1,0,dp ax p_.Oper (wR (((aF ax p_.Oper).getD 0)+1)),bG.1),hm,rfl,((hS.cell (id:=901) (t:=42) (cs:=[Sl a1 aq c1]) kr).out (f:=(bT (zAa2 i1 i2 i3 i4 m2))) hC kr kr (hP.at 0 rfl)),((hS.cell (id:=902) (t:=113) (cs:=[V (.map (some r2))]) kr).out (f:=(bT (zAa2 i1 i2 i3 i4 m2))) hC kr kr (hP.at 1 rfl)),(h114.out (f:=(bT (zAa2 i1 i2 i3 i4 m2))) hM hC kr kr),((hS.cell (id:=903) (t:=48) (cs:=(cO aP a3 c3)) kr).out (f:=(bT (zAa2 i1 i2 i3 i4 m2))) hC kr kr (hP.at 2 rfl)),((hS.cell (id:=904) (t:=3) (cs:=[I bG.1]) kr).out (f:=(bT (zAa2 i1 i2 i3 i4 m2))) hC kr kr (hP.at 3 rfl))⟩)
theorem C97 (K3:S98) (v:∀ (p_:aa) (aq:List ab) (ax:List (Int × Int)) (aP:ao) (bF:Int),VC97 p_ aq ax aP bF (fun r=>r=dh p_ aq ax aP bF)):S97:=by
 intro w X p_ aq ax aP bF a1 c1 r2 m2 a3 c3  b1 i1 b2 i2 b3 i3 b4 i4 h1 h2 h3 fF g8 lT ur hA
 refine (W97 K3 w X p_ aq ax aP bF a1 c1 r2 m2 a3 c3  b1 i1 b2 i2 b3 i3 b4 i4 _ (v p_ aq ax aP bF) h1 h2 h3 fF g8 lT ur hA).mono ?_
 rintro _ _ _ _ ⟨r,rfl,h⟩
 exact h
theorem W62 (Le:S85) (Ld:S86) (K4:S97) (w0) (X0) (o_:ao) (l_:List ab) (state:Int) (aj:List aa) (a1) (c1) (a2) (c2) (a3) (c3) (Q:Int × Int × Int->Prop) (hm:VC62 o_ l_ state aj Q) (h1:RS aB w0 X0 a1 o_.Rows c1) (h2:RS ar w0 X0 a2 l_ c2) (h3:RS av w0 X0 a3 aj c3) :
  Ret Tryz.prog 62 #[.agg #[.int .i64 o_.au,.int .i64 o_.aA,.int .i64 o_.aH,.slice a1 o_.Rows.length c1],.slice a2 l_.length c2,.int .i64 state,.slice a3 aj.length c3] aM w0 X0 (fun w X' v=>∃ r,Q r/\v=.tuple #[.int .i64 r.1,.int .i64 r.2.1,.int .i64 r.2.2]):=by
 unfold VC62 at hm
 replace hm:=hm (h1.sm kr)
 replace hm:=hm (h2.sm kr)
 replace hm:=hm (h3.sm kr)
 refine enter Tryz.func62 rfl (vals:=[.agg #[.int .i64 o_.au,.int .i64 o_.aA,.int .i64 o_.aH,.slice a1 o_.Rows.length c1],.slice a2 l_.length c2,.int .i64 state,.slice a3 aj.length c3]) kr ?_
 intro Z a hS hO hM
 replace h1:=h1.m0 hM
 replace h2:=h2.m0 hM
 replace h3:=h3.m0 hM
 refine rM T hS ⟨[(1,Sl a2 l_ c2),(2,I state),(3,Sl a3 aj c3),(4,Pt 5 0)],[(5,(48,(cO o_ a1 c1)))]⟩ fun Z a tt yj hS hE hr=>?_
 replace hO:=hO.m2 hE
 replace h1:=h1.m1 hE
 replace h2:=h2.m1 hE
 replace h3:=h3.m1 hE
 clear hE hr
 refine bh ?_
 refine br ?_
 refine oPe T hS 2 [] [(17,V (.agg #[.int .i64 o_.au,.int .i64 o_.aA,.int .i64 o_.aH,.slice a1 o_.Rows.length c1])),(18,I state)] fun a hS=>?_
 obtain ⟨hq,hm⟩:=hm
 refine op1 (call hS kr kr hb85 kr (fun _ _=>rfl) (Le _ _ o_ state a1 c1 hq h1) ?_)
 intro v101 a fH fK hE hp hS
 replace hO:=hO.m2 hE
 replace h1:=h1.m1 hE
 replace h2:=h2.m1 hE
 replace h3:=h3.m1 hE
 obtain ⟨ay,hr⟩:∃ r,fY o_ state=r:=⟨_,rfl⟩
 replace hm:=hm ay hr
 rw [hr] at hp
 clear hr
 subst hp
 refine ePe T hS [17,18,19] [(11,I ay)] fun a hS=>?_
 refine rPe T hS [] [(21,B (ay != 0))] fun a hS=>?_
 refine aI hS (b:=(ay != 0)) kr (fun hb=>?_) fun hb=>?_
 ·replace hm:=hm.1 hb
  refine rP T hS ⟨[(8,I 0),(9,I (-1)),(10,I ay)],[]⟩ fun a hS=>?_
  refine ba ?_
  exact fin T hS hO (fun c=>c) rfl (r:=[.int .i64 0,.int .i64 (-1),.int .i64 ay]) kr (fun X' hM hC=>⟨(0,(-1),ay),hm,rfl⟩)
 replace hm:=hm.2 hb
 refine aO ?_
 refine br ?_
 refine oP T hS 3 ⟨[(2,I state),(3,Sl a3 aj c3),(23,V (.agg #[.int .i64 o_.au,.int .i64 o_.aA,.int .i64 o_.aH,.slice a1 o_.Rows.length c1])),(24,Sl a2 l_ c2),(25,I state)],[]⟩ fun a hS=>?_
 refine op1 (call hS kr kr hb86 kr (fun _ _=>rfl) (Ld _ _ o_ l_ state a1 c1 a2 c2 2113 701 702 703 704 h1 h2) ?_)
 intro v105 a n6 n2 hE hp hS
 replace hO:=hO.m2 hE
 replace h1:=h1.m1 hE
 replace h2:=h2.m1 hE
 replace h3:=h3.m1 hE
 obtain ⟨cA,cz,fX,mg,mf,b117,b118,b119,b120,hp,h111,h116,ta,vO,h112,rl,CA⟩:=hp
 obtain ⟨bb,hr⟩:∃ r,en o_ l_ state=r:=⟨_,rfl⟩
 replace hm:=hm bb hr
 rw [hr] at h111 h116 ta rl CA h112
 clear hr
 subst hp
 replace hm:=hm (h111.sm kr)
 replace hm:=hm (h116.sm kr)
 replace hS:=hS.o8 (id:=701) (t:=42) (cs:=[Sl cA bb.1 cz]) kr kr ta rfl
 replace hS:=hS.o8 (id:=702) (t:=113) (cs:=[V (.map (some fX))]) kr kr vO rfl
 replace hS:=hS.o8 (id:=703) (t:=48) (cs:=(cO bb.2.2.1 mg mf)) kr kr rl rfl
 replace hS:=hS.o8 (id:=704) (t:=3) (cs:=[I bb.2.2.2]) kr kr CA rfl
 replace hS:=hS.CN (t:=26) (x:=V (.func (.func 97) #[] #[.pointer (some ⟨b117,0,none⟩),.pointer (some ⟨b118,0,none⟩),.pointer (some ⟨b119,0,none⟩),.pointer (some ⟨b120,0,none⟩)])) (y:=.f (.func 97) [] [.p 701 0,.p 702 0,.p 703 0,.p 704 0]) kr rfl
 generalize (upd (upd (upd (upd Z 701 b117) 702 b118) 703 b119) 704 b120)=Z at hS
 clear ta vO rl CA
 refine ePe T hS [23,24,25,26] [(12,.f (.func 97) [] [.p 701 0,.p 702 0,.p 703 0,.p 704 0])] fun a hS=>?_
 refine rPe T hS [2] [(8,I state)] fun a hS=>?_
 refine cb (fun a w=>∃ (Z:Nat->Nat) (X:Nat->Nat) (nz:Int),VC62_J1 aj Q nz/\St Tryz.f62.ntmps ⟨[(3,Sl a3 aj c3),(8,I nz)],[]⟩ Z a w X/\Old w0 X0 w X/\RS av w X a3 aj c3) ?_ ?_
 ·refine rPe T hS [] [(28,Sl a3 aj c3),(29,I (lN aj)),(30,I 0)] fun a hS=>?_
  refine aQ ?_
  obtain ⟨I1,μ1,cJ,hm⟩:=hm
  refine cH (σ:=Int × Int × (List (Int × Int)) × Int) (fun s a w=>∃ Z X,I1 s.1 s.2.1 s.2.2.1 s.2.2.2/\St Tryz.f62.ntmps ⟨[(3,Sl a3 aj c3),(8,I s.1),(12,.f (.func 97) [] [.p 701 0,.p 702 0,.p 703 0,.p 704 0]),(28,Sl a3 aj c3),(29,I (lN aj)),(30,I s.2.1)],[(701,(42,[Sl cA bb.1 cz])),(702,(113,[V (.map (some fX))])),(703,(48,(cO bb.2.2.1 mg mf))),(704,(3,[I s.2.2.2]))]⟩ Z a w X/\Old w0 X0 w X/\RS av w X a3 aj c3/\RS av w X a3 aj c3/\RS ar w X cA bb.1 cz/\OM kI tI false w X 2113 fX s.2.2.1/\RS aB w X mg bb.2.2.1.Rows mf) (fun s=>μ1 s.1 s.2.1 s.2.2.1 s.2.2.2) (⟨state,0,bb.2.1,bb.2.2.2⟩) ?_ ?_
  ·exact ⟨Z,_,cJ,hS.sl _,hO,h3,h3,h111,h112,h116⟩
  rintro ⟨gf,mb,gV,gv⟩ a FZ ⟨Z,Hm,hI,hS,hO,h127,h129,h131,h133,h134⟩
  replace hm:=hm gf mb gV gv hI
  clear hI cJ
  refine rPe T hS [] [(31,B (decide (mb < (lN aj))))] fun a hS=>?_
  refine bh ?_
  refine aI hS (b:=decide (mb < (lN aj))) kr (fun hb=>?_) fun hb=>?_
  ·replace hm:=hm.1 hb
   refine aO (bh ?_)
   refine aQ ?_
   refine br ?_
   refine oPe T hS 1 [8,31] [(32,I mb)] fun a hS=>?_
   obtain ⟨hq,hm⟩:=hm
   refine op1 (index (e:=56) (k:=.i64) T hS kr kr kr kr h129 kr kr hq.1 hq.2 ?_)
   intro Hs a h137 hS
   refine op1 (eS T hS kr kr kr h137 kr kr ?_)
   intro v138 a hv hS
   subst hv
   refine eM T hS ⟨[(3,Sl a3 aj c3),(12,.f (.func 97) [] [.p 701 0,.p 702 0,.p 703 0,.p 704 0]),(13,I mb),(14,Pt 15 0),(28,Sl a3 aj c3),(29,I (lN aj)),(30,I mb)],[(15,(56,(cK (gi aj mb)))),(701,(42,[Sl cA bb.1 cz])),(702,(113,[V (.map (some fX))])),(703,(48,(cO bb.2.2.1 mg mf))),(704,(3,[I gv]))]⟩ fun Z a DL A9 hS hE hr=>?_
   replace hO:=hO.m2 hE
   replace h127:=h127.m1 hE
   replace h129:=h129.m1 hE
   replace h131:=h131.m1 hE
   replace h133:=h133.m2 hE
   replace h134:=h134.m1 hE
   clear hE hr
   refine br ?_
   refine oP T hS 2 ⟨[(3,Sl a3 aj c3),(12,.f (.func 97) [] [.p 701 0,.p 702 0,.p 703 0,.p 704 0]),(13,I mb),(28,Sl a3 aj c3),(29,I (lN aj)),(30,I mb),(36,.f (.func 97) [] [.p 701 0,.p 702 0,.p 703 0,.p 704 0]),(37,V (.agg #[.int .i64 ((gi aj mb).Oper),.int .i64 ((gi aj mb).Result)]))],[(701,(42,[Sl cA bb.1 cz])),(702,(113,[V (.map (some fX))])),(703,(48,(cO bb.2.2.1 mg mf))),(704,(3,[I gv]))]⟩ fun a hS=>?_
   refine op1 (ko (fi:=[]) (cp:=[.p 701 0,.p 702 0,.p 703 0,.p 704 0]) hS kr kr hb97 kr kr (K4 _ _ (gi aj mb) bb.1 gV bb.2.2.1 gv cA cz fX 2113 mg mf (Z 701) 701 (Z 702) 702 (Z 703) 703 (Z 704) 704 h131 h133 h134 (hS.cell (id:=701) (t:=42) (cs:=[Sl cA bb.1 cz]) kr) (hS.cell (id:=702) (t:=113) (cs:=[V (.map (some fX))]) kr) (hS.cell (id:=703) (t:=48) (cs:=(cO bb.2.2.1 mg mf)) kr) (hS.cell (id:=704) (t:=3) (cs:=[I gv]) kr) ⟨by decide,by decide⟩) ?_)
   intro v139 a zZ Bc hE hp hS
   clear h133
   replace hO:=hO.m2 hE
   replace h127:=h127.m1 hE
   replace h129:=h129.m1 hE
   replace h131:=h131.m1 hE
   replace h134:=h134.m1 hE
   obtain ⟨hp,Fl,Fk,h143,vL,s5⟩:=hp
   obtain ⟨b9,hr⟩:∃ r,dh (gi aj mb) bb.1 gV bb.2.2.1 gv=r:=⟨_,rfl⟩
   replace hm:=hm b9 hr
   rw [hr] at hp s5 h143
   clear hr
   subst hp
   replace hS:=hS.cI (id:=701) (t:=42) (cs:=[Sl cA bb.1 cz]) kr Fl
   replace hS:=hS.cI (id:=702) (t:=113) (cs:=[V (.map (some fX))]) kr Fk
   replace hS:=hS.cI (id:=703) (t:=48) (cs:=(cO bb.2.2.1 mg mf)) kr vL
   replace hS:=hS.cI (id:=704) (t:=3) (cs:=[I b9.2.2.2]) kr s5
   clear Fl Fk vL s5
   refine ePe T hS [36,37,38] [(15,I b9.1),(16,I b9.2.1)] fun a hS=>?_
   refine bh ?_
   refine rPe T hS [] [(42,B (b9.2.1 != 0))] fun a hS=>?_
   refine aI hS (b:=(b9.2.1 != 0)) kr (fun hb=>?_) fun hb=>?_
   ·replace hm:=hm.1 hb
    refine rP T hS ⟨[(8,I 0),(9,I mb),(10,I b9.2.1)],[]⟩ fun a hS=>?_
    refine ba ?_
    exact fin T hS hO (fun c=>c) rfl (r:=[.int .i64 0,.int .i64 mb,.int .i64 b9.2.1]) kr (fun X' hM hC=>⟨(0,mb,b9.2.1),hm,rfl⟩)
   replace hm:=hm.2 hb
   refine aO ?_
   refine region (ePe T hS [13,15,16,42] [(8,I b9.1)] fun a hS=>?_)
   refine region (ePe T hS [] [(30,I (wR (mb+1)))] fun a hS=>?_)
   exact ⟨⟨b9.1,wR (mb+1),b9.2.2.1,b9.2.2.2⟩,⟨Z,_,hm.1,hS.sl _,hO,h127,h129,h131,h143,h134⟩,hm.2⟩
  replace hm:=hm.2 hb
  refine cu (by rfl) ?_
  exact ⟨Z,_,gf,hm,hS.sl _,hO,h127⟩
 rintro a Bq ⟨Z,yk,nz,hm,hS,hO,h125⟩
 unfold VC62_J1 at hm
 refine rPe T hS [3] [(9,I (lN aj)),(10,I 0)] fun a hS=>?_
 refine ba ?_
 exact fin T hS hO (fun c=>c) rfl (r:=[.int .i64 nz,.int .i64 (lN aj),.int .i64 0]) kr (fun X' hM hC=>⟨(nz,(lN aj),0),hm,rfl⟩)
theorem C62 (Le:S85) (Ld:S86) (K4:S97) (v:∀ (o_:ao) (l_:List ab) (state:Int) (aj:List aa),yS o_ l_ state aj->VC62 o_ l_ state aj (fun r=>r=jr o_ l_ state aj)):S62:=by
 intro w X o_ l_ state aj a1 c1 a2 c2 a3 c3   hp h1 h2 h3
 refine (W62 Le Ld K4 w X o_ l_ state aj a1 c1 a2 c2 a3 c3   _ (v o_ l_ state aj hp) h1 h2 h3).mono ?_
 rintro _ _ _ _ ⟨r,rfl,h⟩
 exact h
theorem W33 (Ls:S62) (w0) (X0) (o_:ao) (l_:List ab) (aj:List aa) (a1) (c1) (a2) (c2) (a3) (c3) (Q:Int × Int × Int->Prop) (hm:VC33 o_ l_ aj Q) (h1:RS aB w0 X0 a1 o_.Rows c1) (h2:RS ar w0 X0 a2 l_ c2) (h3:RS av w0 X0 a3 aj c3) :
  Ret Tryz.prog 33 #[.agg #[.int .i64 o_.au,.int .i64 o_.aA,.int .i64 o_.aH,.slice a1 o_.Rows.length c1],.slice a2 l_.length c2,.slice a3 aj.length c3] aM w0 X0 (fun w X' v=>∃ r,Q r/\v=.tuple #[.int .i64 r.1,.int .i64 r.2.1,.int .i64 r.2.2]):=by
 unfold VC33 at hm
 replace hm:=hm (h1.sm kr)
 replace hm:=hm (h2.sm kr)
 replace hm:=hm (h3.sm kr)
 refine enter Tryz.func33 rfl (vals:=[.agg #[.int .i64 o_.au,.int .i64 o_.aA,.int .i64 o_.aH,.slice a1 o_.Rows.length c1],.slice a2 l_.length c2,.slice a3 aj.length c3]) kr ?_
 intro Z a hS hO hM
 replace h1:=h1.m0 hM
 replace h2:=h2.m0 hM
 replace h3:=h3.m0 hM
 refine rM T hS ⟨[(1,Sl a2 l_ c2),(2,Sl a3 aj c3),(3,Pt 4 0)],[(4,(48,(cO o_ a1 c1)))]⟩ fun Z a nA mh hS hE hr=>?_
 replace hO:=hO.m2 hE
 replace h1:=h1.m1 hE
 replace h2:=h2.m1 hE
 replace h3:=h3.m1 hE
 clear hE hr
 refine br ?_
 refine oP T hS 5 ⟨[(9,V (.agg #[.int .i64 o_.au,.int .i64 o_.aA,.int .i64 o_.aH,.slice a1 o_.Rows.length c1])),(10,Sl a2 l_ c2),(12,I o_.aH),(13,Sl a3 aj c3)],[]⟩ fun a hS=>?_
 obtain ⟨hq,hm⟩:=hm
 refine op1 (call hS kr kr hb62 kr (fun _ _=>rfl) (Ls _ _ o_ l_ o_.aH aj a1 c1 a2 c2 a3 c3 hq h1 h2 h3) ?_)
 intro v101 a fH fK hE hp hS
 replace hO:=hO.m2 hE
 replace h1:=h1.m1 hE
 replace h2:=h2.m1 hE
 replace h3:=h3.m1 hE
 obtain ⟨ay,hr⟩:∃ r,jr o_ l_ o_.aH aj=r:=⟨_,rfl⟩
 replace hm:=hm ay hr
 rw [hr] at hp
 clear hr
 subst hp
 refine ePe T hS [9,10,12,13,14] [(6,I ay.1),(7,I ay.2.1),(8,I ay.2.2)] fun a hS=>?_
 refine ba ?_
 exact fin T hS hO (fun c=>c) rfl (r:=[.int .i64 ay.1,.int .i64 ay.2.1,.int .i64 ay.2.2]) kr (fun X' hM hC=>⟨(ay.1,ay.2.1,ay.2.2),hm,rfl⟩)
theorem C33 (Ls:S62) (v:∀ (o_:ao) (l_:List ab) (aj:List aa),kS o_ l_ aj->VC33 o_ l_ aj (fun r=>r=cd o_ l_ aj)):S33:=by
 intro w X o_ l_ aj a1 c1 a2 c2 a3 c3   hp h1 h2 h3
 refine (W33 Ls w X o_ l_ aj a1 c1 a2 c2 a3 c3   _ (v o_ l_ aj hp) h1 h2 h3).mono ?_
 rintro _ _ _ _ ⟨r,rfl,h⟩
 exact h
theorem W87 (w0) (X0) (aj:List aa) (a1) (c1) (cM) (dU) (Q:(List (Int × Int))->Prop) (hm:VC87 aj Q) (h1:RS av w0 X0 a1 aj c1) :
  Ret Tryz.prog 87 #[.slice a1 aj.length c1] aM w0 X0 (fun w X' v=>∃ r,Q r/\∃ Ib vh,v=.func (.func 99) #[] #[.pointer (some ⟨vh,0,none⟩)]/\Cell w X' vh dU 113 [.map (some Ib)]/\OM kI tI false w X' cM Ib r):=by
 unfold VC87 at hm
 replace hm:=hm (h1.sm kr)
 refine enter Tryz.func87 rfl (vals:=[.slice a1 aj.length c1]) kr ?_
 intro Z a hS hO hM
 replace h1:=h1.m0 hM
 refine rPe T hS [] [] fun a hS=>?_
 refine br ?_
 refine op1 (pM kI tI false 1007 hS kr kr ?_)
 intro dY a fH fK hE h104 hS
 replace hO:=hO.m2 hE
 replace h1:=h1.m1 hE
 refine eM T hS ⟨[(0,Sl a1 aj c1),(3,Pt 4 0)],[(4,(113,[V (.map (some dY))]))]⟩ fun Z a F2 yp hS hE hr=>?_
 replace hO:=hO.m2 hE
 replace h1:=h1.m1 hE
 replace h104:=h104.m2 hE
 clear hE hr
 refine cb (fun a w=>∃ (Z:Nat->Nat) (X:Nat->Nat) (gZ:List (Int × Int)),VC87_J1 Q gZ/\St Tryz.f87.ntmps ⟨[(3,Pt 4 0)],[(4,(113,[V (.map (some dY))]))]⟩ Z a w X/\Old w0 X0 w X/\OM kI tI false w X 1007 dY gZ) ?_ ?_
 ·refine rPe T hS [0] [(7,Sl a1 aj c1),(8,I (lN aj)),(9,I 0)] fun a hS=>?_
  refine aQ ?_
  obtain ⟨I1,μ1,cJ,hm⟩:=hm
  refine cH (σ:=Int × (List (Int × Int))) (fun s a w=>∃ Z X,I1 s.1 s.2/\St Tryz.f87.ntmps ⟨[(3,Pt 4 0),(7,Sl a1 aj c1),(8,I (lN aj)),(9,I s.1)],[(4,(113,[V (.map (some dY))]))]⟩ Z a w X/\Old w0 X0 w X/\RS av w X a1 aj c1/\OM kI tI false w X 1007 dY s.2) (fun s=>μ1 s.1 s.2) (⟨0,([]:List (Int × Int))⟩) ?_ ?_
  ·exact ⟨Z,_,cJ,hS.sl _,hO,h1,h104⟩
  rintro ⟨dz,c7⟩ a Br ⟨Z,Be,hI,hS,hO,h107,h110⟩
  replace hm:=hm dz c7 hI
  clear hI cJ
  refine rPe T hS [] [(10,B (decide (dz < (lN aj))))] fun a hS=>?_
  refine bh ?_
  refine aI hS (b:=decide (dz < (lN aj))) kr (fun hb=>?_) fun hb=>?_
  ·replace hm:=hm.1 hb
   refine aO (bh ?_)
   refine aQ ?_
   refine br ?_
   obtain ⟨hq,hm⟩:=hm
   refine op1 (index (e:=56) (k:=.i64) T hS kr kr kr kr h107 kr kr hq.1 hq.2 ?_)
   intro Dm a h112 hS
   refine op1 (eS T hS kr kr kr h112 kr kr ?_)
   intro v113 a hv hS
   subst hv
   refine eM T hS ⟨[(3,Pt 4 0),(5,Pt 6 0),(7,Sl a1 aj c1),(8,I (lN aj)),(9,I dz)],[(4,(113,[V (.map (some dY))])),(6,(56,(cK (gi aj dz))))]⟩ fun Z a Bs EP hS hE hr=>?_
   replace hO:=hO.m2 hE
   replace h107:=h107.m1 hE
   replace h110:=h110.m2 hE
   clear hE hr
   refine region ?_
   refine oP T hS 3 ⟨[(3,Pt 4 0),(7,Sl a1 aj c1),(8,I (lN aj)),(9,I dz),(13,V (.map (some dY))),(15,I ((gi aj dz).Oper))],[(4,(113,[V (.map (some dY))]))]⟩ fun a hS=>?_
   refine op1 (kd kI tI false (zv:=.int .i64 0) (z:=0) ((gi aj dz).Oper) hS kr kr kr kr Tryz.underlying113 Tryz.underlying3 kr rfl h110 ?_)
   intro v114 a hv hS
   replace hv:tI.R _ _ [v114] _:=hv
   cases hv
   refine oPe T hS 1 [16] [(17,I (wR (((aF c7 ((gi aj dz).Oper)).getD 0)+1)))] fun a hS=>?_
   refine op1 (ue kI tI false (v:=I (wR (((aF c7 ((gi aj dz).Oper)).getD 0)+1))) (u:=wR (((aF c7 ((gi aj dz).Oper)).getD 0)+1)) ((gi aj dz).Oper) hS kr kr kr kr Tryz.underlying113 Tryz.underlying3 kr h110 rfl ?_)
   intro a pY hE h116 hS
   clear h110
   replace hO:=hO.m2 hE
   replace h107:=h107.m1 hE
   refine iy ?_
   refine region (ePe T hS [] [(9,I (wR (dz+1)))] fun a hS=>?_)
   exact ⟨⟨wR (dz+1),dp c7 ((gi aj dz).Oper) (wR (((aF c7 ((gi aj dz).Oper)).getD 0)+1))⟩,⟨Z,_,hm.1,hS.sl _,hO,h107,h116⟩,hm.2⟩
  replace hm:=hm.2 hb
  refine cu (by rfl) ?_
  exact ⟨Z,_,c7,hm,hS.sl _,hO,h110⟩
 rintro a uX ⟨Z,EO,gZ,hm,hS,hO,h106⟩
 unfold VC87_J1 at hm
 refine rPe T hS [3] [(2,.f (.func 99) [] [.p 4 0])] fun a hS=>?_
 refine ba ?_
 exact fin T hS hO (zAa1 dU cM) rfl (r:=[.func (.func 99) #[] #[.pointer (some ⟨Z 4,0,none⟩)]]) kr (fun X' hM hC=>⟨gZ,hm,dY,(Z 4),rfl,((hS.cell (id:=4) (t:=113) (cs:=[V (.map (some dY))]) kr).out (f:=(zAa1 dU cM)) hC kr kr rfl),(h106.out (f:=(zAa1 dU cM)) hM hC kr kr)⟩)
theorem C87 (v:∀ (aj:List aa),VC87 aj (fun r=>r=fx aj)):S87:=by
 intro w X aj a1 c1 cM dU  h1
 refine (W87 w X aj a1 c1 cM dU  _ (v aj) h1).mono ?_
 rintro _ _ _ _ ⟨r,rfl,h⟩
 exact h
theorem W99 (w0) (X0) (i_:Int) (aq:List (Int × Int)) (r1) (m1) (b1) (i1) (Q:Bool->Prop) (hm:VC99 i_ aq Q) (h1:OM kI tI false w0 X0 m1 r1 aq) (fF:Cell w0 X0 b1 i1 113 [.map (some r1)]) (hA:dS [i1,m1]) :
  Ret Tryz.prog 99 #[.int .i64 i_,.pointer (some ⟨b1,0,none⟩)] (pR [i1,m1]) w0 X0 (fun w X' v=>∃ r,Q r/\v=.bool r/\Cell w X' b1 i1 113 [.map (some r1)]/\OM kI tI false w X' m1 r1 aq):=by
 unfold VC99 at hm
 refine fT Tryz.func99 rfl (dH [(i1,901),(m1,2001)]) (fun id=>(bif Nat.beq id 901 then b1 else 0)) (args:=[I i_,Pt 901 0]) (bxs:=[(901,(113,[V (.map (some r1))]))]) kr rfl (bq.cons kr (fF.map (bQ 0 hA.1 rfl)) bq.nil) (fJ (fun q hq=>(hA.2 q.1 (List.mem_map.2 ⟨q,hq,rfl⟩)).1)) ?_
 intro a hS hO hM
 have hP:Pin [(901,b1)] (fun id=>(bif Nat.beq id 901 then b1 else 0)):=by intro q hq; simp at hq; rcases hq with rfl <;> rfl
 generalize (fun id=>(bif Nat.beq id 901 then b1 else 0))=Z at hS hP
 clear fF
 replace h1:=h1.map (f:=dH [(i1,901),(m1,2001)]) (bQ 1 hA.1 rfl) hM
 refine rPe T hS [] [] fun a hS=>?_
 refine br ?_
 refine oPe T hS 2 [0,1] [(4,V (.map (some r1))),(5,I i_)] fun a hS=>?_
 refine op1 (kd kI tI false (zv:=.int .i64 0) (z:=0) i_ hS kr kr kr kr Tryz.underlying113 Tryz.underlying3 kr rfl h1 ?_)
 intro v101 a hv hS
 replace hv:tI.R _ _ [v101] _:=hv
 cases hv
 refine ePe T hS [4,5,6] [(3,B (((aF aq i_).getD 0) == 0))] fun a hS=>?_
 refine ba ?_
 exact g9 T hS hO (fun c h=>bZ kr h) (fun c h=>b0 (l:=[(i1,901),(m1,2001)]) h) (bT [(i1,901),(m1,2001)]) rfl (r:=[.bool (((aF aq i_).getD 0) == 0)]) kr (fun X' hM hC=>⟨(((aF aq i_).getD 0) == 0),hm,rfl,((hS.cell (id:=901) (t:=113) (cs:=[V (.map (some r1))]) kr).out (f:=(bT [(i1,901),(m1,2001)])) hC kr kr (hP.at 0 rfl)),(h1.out (f:=(bT [(i1,901),(m1,2001)])) hM hC kr kr)⟩)
theorem C99 (v:∀ (i_:Int) (aq:List (Int × Int)),VC99 i_ aq (fun r=>r=fw i_ aq)):S99:=by
 intro w X i_ aq r1 m1  b1 i1 h1 fF hA
 refine (W99 w X i_ aq r1 m1  b1 i1 _ (v i_ aq) h1 fF hA).mono ?_
 rintro _ _ _ _ ⟨r,rfl,h⟩
 exact h
theorem W64 (Lc:S87) (K2:S99) (w0) (X0) (l_:List ab) (aj:List aa) (pending:Bool) (a1) (c1) (a2) (c2) (Q:(List Int)->Prop) (hm:VC64 l_ aj pending Q) (h1:RS ar w0 X0 a1 l_ c1) (h2:RS av w0 X0 a2 aj c2) :
  Ret Tryz.prog 64 #[.slice a1 l_.length c1,.slice a2 aj.length c2,.bool pending] aM w0 X0 (fun w X' v=>∃ r,Q r/\∃ cQ cN,v=.slice cQ r.length cN/\RS tI w X' cQ r cN):=by
 unfold VC64 at hm
 replace hm:=hm (h1.sm kr)
 replace hm:=hm (h2.sm kr)
 refine enter Tryz.func64 rfl (vals:=[.slice a1 l_.length c1,.slice a2 aj.length c2,.bool pending]) kr ?_
 intro Z a hS hO hM
 replace h1:=h1.m0 hM
 replace h2:=h2.m0 hM
 refine rPe T hS [] [] fun a hS=>?_
 refine br ?_
 refine oPe T hS 1 [1] [(11,Sl a2 aj c2)] fun a hS=>?_
 refine op1 (call hS kr kr hb87 kr (fun _ _=>rfl) (Lc _ _ aj a2 c2 2106 701 h2) ?_)
 intro v101 a fH fK hE hp hS
 replace hO:=hO.m2 hE
 replace h1:=h1.m1 hE
 replace h2:=h2.m1 hE
 obtain ⟨gE,b107,hp,FA,h105⟩:=hp
 obtain ⟨ay,hr⟩:∃ r,fx aj=r:=⟨_,rfl⟩
 replace hm:=hm ay hr
 rw [hr] at h105
 clear hr
 subst hp
 replace hS:=hS.o8 (id:=701) (t:=113) (cs:=[V (.map (some gE))]) kr kr FA rfl
 replace hS:=hS.CN (t:=12) (x:=V (.func (.func 99) #[] #[.pointer (some ⟨b107,0,none⟩)])) (y:=.f (.func 99) [] [.p 701 0]) kr rfl
 generalize (upd Z 701 b107)=Z at hS
 clear FA
 refine ePe T hS [11,12] [(7,.f (.func 99) [] [.p 701 0])] fun a hS=>?_
 refine rPe T hS [] [(8,V (.slice none 0 0))] fun a hS=>?_
 refine cb (fun a w=>∃ (Z:Nat->Nat) (X:Nat->Nat) (c7:List Int) (gR:Option Addr) (gQ:Nat),VC64_J1 Q c7/\St Tryz.f64.ntmps ⟨[(8,Sl gR c7 gQ)],[]⟩ Z a w X/\Old w0 X0 w X/\OS tI 3 w X 1007 gR c7 gQ) ?_ ?_
 ·refine rPe T hS [0] [(13,Sl a1 l_ c1),(14,I (lN l_)),(15,I 0)] fun a hS=>?_
  refine aQ ?_
  obtain ⟨I1,μ1,cJ,hm⟩:=hm
  refine cH (σ:=(List Int) × Int) (fun s a w=>∃ Z X eD eC,I1 s.1 s.2/\St Tryz.f64.ntmps ⟨[(2,B pending),(7,.f (.func 99) [] [.p 701 0]),(8,Sl eD s.1 eC),(13,Sl a1 l_ c1),(14,I (lN l_)),(15,I s.2)],[(701,(113,[V (.map (some gE))]))]⟩ Z a w X/\Old w0 X0 w X/\OS tI 3 w X 1007 eD s.1 eC/\RS ar w X a1 l_ c1/\OM kI tI false w X 2106 gE ay) (fun s=>μ1 s.1 s.2) (⟨[],0⟩) ?_ ?_
  ·exact ⟨Z,_,none,0,cJ,hS.sl _,hO,(OS.nil _ _ _ _ _),h1,h105⟩
  rintro ⟨bu,eE⟩ a Bp ⟨Z,Hl,eD,eC,hI,hS,hO,h118,h119,h121⟩
  replace hm:=hm bu eE hI
  clear hI cJ
  refine rPe T hS [] [(16,B (decide (eE < (lN l_))))] fun a hS=>?_
  refine bh ?_
  refine aI hS (b:=decide (eE < (lN l_))) kr (fun hb=>?_) fun hb=>?_
  ·replace hm:=hm.1 hb
   refine aO ?_
   refine cb (fun a w=>∃ (Z:Nat->Nat) (X:Nat->Nat) (aX:List Int) (pB:Option Addr) (px:Nat),VC64_J2 I1 μ1 bu eE aX/\St Tryz.f64.ntmps ⟨[(2,B pending),(7,.f (.func 99) [] [.p 701 0]),(8,Sl pB aX px),(13,Sl a1 l_ c1),(14,I (lN l_)),(15,I eE)],[(701,(113,[V (.map (some gE))]))]⟩ Z a w X/\Old w0 X0 w X/\OS tI 3 w X 1007 pB aX px/\RS ar w X a1 l_ c1/\OM kI tI false w X 2106 gE ay) ?_ ?_
   ·refine aQ ?_
    refine br ?_
    refine oPe T hS 1 [16] [(17,I eE)] fun a hS=>?_
    obtain ⟨hq,hm⟩:=hm
    refine op1 (index (e:=102) (k:=.i64) T hS kr kr kr kr h119 kr kr hq.1 hq.2 ?_)
    intro Nv a h129 hS
    refine op1 (eS T hS kr kr kr h129 kr kr ?_)
    intro v130 a hv hS
    subst hv
    refine eM T hS ⟨[(2,B pending),(7,.f (.func 99) [] [.p 701 0]),(8,Sl eD bu eC),(9,I eE),(10,Pt 11 0),(13,Sl a1 l_ c1),(14,I (lN l_)),(15,I eE)],[(11,(102,(cP (gi l_ eE)))),(701,(113,[V (.map (some gE))]))]⟩ fun Z a FY Dc hS hE hr=>?_
    replace hO:=hO.m2 hE
    replace h118:=h118.m2 hE
    replace h119:=h119.m1 hE
    replace h121:=h121.m2 hE
    clear hE hr
    refine cb (fun a w=>∃ (Z:Nat->Nat) (X:Nat->Nat) (gd:List Int) (jV:Bool) (hU:Option Addr) (hK:Nat),VC64_J3 I1 μ1 bu eE gd jV/\St Tryz.f64.ntmps ⟨[(2,B pending),(7,.f (.func 99) [] [.p 701 0]),(8,Sl hU gd hK),(9,I eE),(13,Sl a1 l_ c1),(14,I (lN l_)),(15,I eE),(29,B jV)],[(701,(113,[V (.map (some gE))]))]⟩ Z a w X/\Old w0 X0 w X/\OS tI 3 w X 1007 hU gd hK/\RS ar w X a1 l_ c1/\OM kI tI false w X 2106 gE ay) ?_ ?_
    ·refine region ?_
     refine oP T hS 6 ⟨[(2,B pending),(7,.f (.func 99) [] [.p 701 0]),(8,Sl eD bu eC),(9,I eE),(13,Sl a1 l_ c1),(14,I (lN l_)),(15,I eE),(25,B ((((gi l_ eE).End) == (-1)) == pending))],[(701,(113,[V (.map (some gE))]))]⟩ fun a hS=>?_
     rcases bft ((((gi l_ eE).End) == (-1)) == pending) with hb | hb
     ·replace hS:=hS.lit (t:=25) kr hb
      replace hm:=hm.1 hb
      refine oPe T hS 2 [] [(26,.f (.func 99) [] [.p 701 0]),(27,I eE)] fun a hS=>?_
      refine op1 (ko (fi:=[]) (cp:=[.p 701 0]) hS kr kr hb99 kr kr (K2 _ _ eE ay gE 2106 (Z 701) 701 h121 (hS.cell (id:=701) (t:=113) (cs:=[V (.map (some gE))]) kr) ⟨by decide,by decide⟩) ?_)
      intro v147 a DL A9 hE hp hS
      clear h121
      replace hO:=hO.m2 hE
      replace h118:=h118.m2 hE
      replace h119:=h119.m1 hE
      obtain ⟨hp,Fh,h152⟩:=hp
      obtain ⟨Ak,hr⟩:∃ r,fw eE ay=r:=⟨_,rfl⟩
      replace hm:=hm Ak hr
      rw [hr] at hp
      clear hr
      subst hp
      replace hS:=hS.cI (id:=701) (t:=113) (cs:=[V (.map (some gE))]) kr Fh
      clear Fh
      refine ePe T hS [25,26,27,28] [(29,B Ak)] fun a hS=>?_
      exact ⟨Z,_,bu,Ak,eD,eC,hm,hS.sl _,hO,h118,h119,h152⟩
     replace hS:=hS.lit (t:=25) kr hb
     replace hm:=hm.2 hb
     refine ePe T hS [25] [(29,B false)] fun a hS=>?_
     exact ⟨Z,_,bu,false,eD,eC,hm,hS.sl _,hO,h118,h119,h121⟩
    rintro a tt ⟨Z,J1,gd,jV,hU,hK,hm,hS,hO,h134,h135,h137⟩
    unfold VC64_J3 at hm
    refine aI hS (b:=jV) kr (fun hb=>?_) fun hb=>?_
    ·replace hm:=hm.1 hb
     refine region ?_
     refine oPe T hS 2 [9,29] [(30,Sl hU gd hK),(31,I eE)] fun a hS=>?_
     refine op1 (lit (E:=3) (col:=0) (T:=tI) (vals:=[.int .i64 eE]) (ys:=[eE]) T hS kr kr kr kr (by exact ⟨rfl,trivial⟩) rfl kr kr kr kr ?_)
     intro b138 a tu wQ hE h141 hN hS
     clear hN
     replace hO:=hO.m2 hE
     replace h134:=h134.m2 hE
     replace h135:=h135.m1 hE
     replace h137:=h137.m2 hE
     replace h141:=h141.rs0
     obtain ⟨hq,hm⟩:=hm
     obtain ⟨news,hN⟩:=h141.src
     refine op1 (append (E:=3) (T:=tI) (col:=1007) (xs:=gd) T hS kr kr kr kr h134 hN kr kr kr kr hq ?_)
     intro wN wC a r6 sd hE h144 hS
     clear hq hN
     clear h134
     replace hO:=hO.m2 hE
     replace h135:=h135.m1 hE
     replace h137:=h137.m2 hE
     replace h141:=h141.m1 hE
     refine ePe T hS [31,32,33] [(8,Sl wN (gd++[eE]) wC)] fun a hS=>?_
     exact ⟨Z,_,gd++[eE],wN,wC,hm,hS.sl _,hO,h144,h135,h137⟩
    replace hm:=hm.2 hb
    refine aO ?_
    exact ⟨Z,_,gd,hU,hK,hm,hS.sl _,hO,h134,h135,h137⟩
   rintro a DJ ⟨Z,EM,aX,pB,px,hm,hS,hO,h125,h126,h127⟩
   unfold VC64_J2 at hm
   refine region (ePe T hS [] [(15,I (wR (eE+1)))] fun a hS=>?_)
   exact ⟨⟨aX,wR (eE+1)⟩,⟨Z,_,pB,px,hm.1,hS.sl _,hO,h125,h126,h127⟩,hm.2⟩
  replace hm:=hm.2 hb
  refine cu (by rfl) ?_
  exact ⟨Z,_,bu,eD,eC,hm,hS.sl _,hO,h118⟩
 rintro a DI ⟨Z,Db,c7,gR,gQ,hm,hS,hO,h112⟩
 unfold VC64_J1 at hm
 refine rPe T hS [8] [(6,Sl gR c7 gQ)] fun a hS=>?_
 refine ba ?_
 obtain ⟨wT,hE,hF⟩:=h112.freeze (by decide)
 replace hS:=hS.ev hE (c6 kr)
 replace hO:=hO.m2 hE
 have h114:=hF; clear hE hF
 exact fin T hS hO (fun c=>c) rfl (r:=[.slice gR c7.length gQ]) kr (fun X' hM hC=>⟨c7,hm,gR,gQ,rfl,h114.m0 hM⟩)
theorem C64 (Lc:S87) (K2:S99) (v:∀ (l_:List ab) (aj:List aa) (pending:Bool),vu l_ aj pending->VC64 l_ aj pending (fun r=>r=ec l_ aj pending)):S64:=by
 intro w X l_ aj pending a1 c1 a2 c2   hp h1 h2
 refine (W64 Lc K2 w X l_ aj pending a1 c1 a2 c2   _ (v l_ aj pending hp) h1 h2).mono ?_
 rintro _ _ _ _ ⟨r,rfl,h⟩
 exact h
theorem W35 (Lr:S64) (w0) (X0) (l_:List ab) (aj:List aa) (a1) (c1) (a2) (c2) (Q:(List Int)->Prop) (hm:VC35 l_ aj Q) (h1:RS ar w0 X0 a1 l_ c1) (h2:RS av w0 X0 a2 aj c2) :
  Ret Tryz.prog 35 #[.slice a1 l_.length c1,.slice a2 aj.length c2] aM w0 X0 (fun w X' v=>∃ r,Q r/\∃ cQ cN,v=.slice cQ r.length cN/\RS tI w X' cQ r cN):=by
 unfold VC35 at hm
 replace hm:=hm (h1.sm kr)
 replace hm:=hm (h2.sm kr)
 refine enter Tryz.func35 rfl (vals:=[.slice a1 l_.length c1,.slice a2 aj.length c2]) kr ?_
 intro Z a hS hO hM
 replace h1:=h1.m0 hM
 replace h2:=h2.m0 hM
 refine rPe T hS [] [] fun a hS=>?_
 refine br ?_
 refine oPe T hS 2 [0,1] [(5,Sl a1 l_ c1),(6,Sl a2 aj c2)] fun a hS=>?_
 obtain ⟨hq,hm⟩:=hm
 refine op1 (call hS kr kr hb64 kr (fun _ _=>rfl) (Lr _ _ l_ aj false a1 c1 a2 c2 hq h1 h2) ?_)
 intro v101 a fH fK hE hp hS
 replace hO:=hO.m2 hE
 replace h1:=h1.m1 hE
 replace h2:=h2.m1 hE
 obtain ⟨ea,dZ,hp,h107⟩:=hp
 obtain ⟨ay,hr⟩:∃ r,ec l_ aj false=r:=⟨_,rfl⟩
 replace hm:=hm ay hr
 rw [hr] at hp h107
 clear hr
 subst hp
 replace hm:=hm (h107.sm kr)
 refine ePe T hS [5,6,7] [(4,Sl ea ay dZ)] fun a hS=>?_
 refine ba ?_
 exact fin T hS hO (fun c=>c) rfl (r:=[.slice ea ay.length dZ]) kr (fun X' hM hC=>⟨ay,hm,ea,dZ,rfl,h107.m0 hM⟩)
theorem C35 (Lr:S64) (v:∀ (l_:List ab) (aj:List aa),qH l_ aj->VC35 l_ aj (fun r=>r=b8 l_ aj)):S35:=by
 intro w X l_ aj a1 c1 a2 c2   hp h1 h2
 refine (W35 Lr w X l_ aj a1 c1 a2 c2   _ (v l_ aj hp) h1 h2).mono ?_
 rintro _ _ _ _ ⟨r,rfl,h⟩
 exact h
theorem W63 (w0) (X0) (a_:ab) (b_:ab) (Q:Bool->Prop) (hm:VC63 a_ b_ Q) :
  Ret Tryz.prog 63 #[.agg #[.int .i64 a_.ah,.int .i64 a_.Kind,.int .i64 a_.aG,.int .i64 a_.End,.int .i64 a_.Result],.agg #[.int .i64 b_.ah,.int .i64 b_.Kind,.int .i64 b_.aG,.int .i64 b_.End,.int .i64 b_.Result]] aM w0 X0 (fun w X' v=>∃ r,Q r/\v=.bool r):=by
 unfold VC63 at hm
 refine enter Tryz.func63 rfl (vals:=[.agg #[.int .i64 a_.ah,.int .i64 a_.Kind,.int .i64 a_.aG,.int .i64 a_.End,.int .i64 a_.Result],.agg #[.int .i64 b_.ah,.int .i64 b_.Kind,.int .i64 b_.aG,.int .i64 b_.End,.int .i64 b_.Result]]) kr ?_
 intro Z a hS hO hM
 refine rM T hS ⟨[(2,Pt 3 0),(3,Pt 4 0)],[(3,(102,(cP a_))),(4,(102,(cP b_)))]⟩ fun Z a oX pE hS hE hr=>?_
 replace hO:=hO.m2 hE
 clear hE hr
 refine rP T hS ⟨[(4,B ((decide (a_.End≥0)) && (decide (a_.End < b_.aG))))],[]⟩ (sp:=[8]) fun a hS=>?_
 refine ba ?_
 exact fin T hS hO (fun c=>c) rfl (r:=[.bool ((decide (a_.End≥0)) && (decide (a_.End < b_.aG)))]) kr (fun X' hM hC=>⟨((decide (a_.End≥0)) && (decide (a_.End < b_.aG))),hm,rfl⟩)
theorem C63 (v:∀ (a_:ab) (b_:ab),VC63 a_ b_ (fun r=>r=bf a_ b_)):S63:=by
 intro w X a_ b_    
 refine (W63 w X a_ b_    _ (v a_ b_)).mono ?_
 rintro _ _ _ _ ⟨r,rfl,h⟩
 exact h
end Go.Proofs.YteahldlmkheleaaGreat
