import Derived.Test.YteahldlmkheleaaGreatLWalksS
set_option linter.all false
namespace Go.Proofs.YteahldlmkheleaaGreat
open Go Go.Sv
abbrev zAa0 (ov ow i5 dJ cz:Nat):Nat->Nat:=fun c=>(bif Nat.beq c 6 then ov else (bif Nat.beq c 4 then ow else (bif Nat.beq c 8 then i5 else (bif Nat.beq c 5 then dJ else (bif Nat.beq c 1009 then cz else c)))))
abbrev zAa1 (dJ cz:Nat):Nat->Nat:=fun c=>(bif Nat.beq c 4 then dJ else (bif Nat.beq c 1007 then cz else c))
abbrev zAa2 (i1 i2 i3 i4 m2:Nat):List (Nat × Nat):=[(i1,901),(i2,902),(i3,903),(i4,904),(m2,2002)]
set_option maxHeartbeats 1000000
theorem W21 (w0) (X0) (o_:al) (a1) (c1) (Q:Bool->Prop) (hm:VC21 o_ Q) (h1:RS ay w0 X0 a1 o_.Rows c1) :
  Ret Tryz.prog 21 #[.agg #[.int .i64 o_.aq,.int .i64 o_.ax,.int .i64 o_.aE,.slice a1 o_.Rows.length c1]] aJ w0 X0 (fun w X' v=>∃ r,Q r/\v=.bool r):=by
 unfold VC21 at hm
 replace hm:=hm (h1.sm kr)
 refine enter Tryz.func21 rfl (vals:=[.agg #[.int .i64 o_.aq,.int .i64 o_.ax,.int .i64 o_.aE,.slice a1 o_.Rows.length c1]]) kr ?_
 intro Z a hS hO hM
 replace h1:=h1.m0 hM
 refine rM T hS ⟨[(1,Pt 2 0)],[(2,(48,(cO o_ a1 c1)))]⟩ fun Z a n5 oI hS hE hr=>?_
 replace hO:=hO.m2 hE
 replace h1:=h1.m1 hE
 clear hE hr
 refine rP T hS ⟨[(2,B (decide ((lN o_.Rows)≤300)))],[]⟩ fun a hS=>?_
 refine aZ ?_
 exact fin T hS hO (fun c=>c) rfl (r:=[.bool (decide ((lN o_.Rows)≤300))]) kr (fun X' hM hC=>⟨(decide ((lN o_.Rows)≤300)),hm,rfl⟩)
theorem C21 (v:∀ (o_:al),VC21 o_ (fun r=>r=gR o_)):S21:=by
 intro w X o_ a1 c1   h1
 refine (W21 w X o_ a1 c1   _ (v o_) h1).mono ?_
 rintro _ _ _ _ ⟨r,rfl,h⟩
 exact h
theorem W81 (w0) (X0) (n_:Int) (top:Int) (Q:Bool->Prop) (hm:VC81 n_ top Q) :
  Ret Tryz.prog 81 #[.int .i64 n_,.int .i64 top] aJ w0 X0 (fun w X' v=>∃ r,Q r/\v=.bool r):=by
 unfold VC81 at hm
 refine enter Tryz.func81 rfl (vals:=[.int .i64 n_,.int .i64 top]) kr ?_
 intro Z a hS hO hM
 refine rPe T hS [] [] fun a hS=>?_
 refine rPe T hS [0,1] [(4,B ((decide (n_≥0)) && (decide (n_ < top))))] (sp:=[7]) fun a hS=>?_
 refine aZ ?_
 exact fin T hS hO (fun c=>c) rfl (r:=[.bool ((decide (n_≥0)) && (decide (n_ < top)))]) kr (fun X' hM hC=>⟨((decide (n_≥0)) && (decide (n_ < top))),hm,rfl⟩)
theorem C81 (v:∀ (n_:Int) (top:Int),VC81 n_ top (fun r=>r=bU n_ top)):S81:=by
 intro w X n_ top    
 refine (W81 w X n_ top    _ (v n_ top)).mono ?_
 rintro _ _ _ _ ⟨r,rfl,h⟩
 exact h
theorem W107 (w0) (X0) (vals:List Int) (a1) (c1) (Q:Int->Prop) (hm:VC107 vals Q) (h1:RS tI w0 X0 a1 vals c1) :
  Ret Tryz.prog 107 #[.slice a1 vals.length c1] aJ w0 X0 (fun w X' v=>∃ r,Q r/\v=.int .i64 r):=by
 unfold VC107 at hm
 replace hm:=hm (h1.sm kr)
 refine enter Tryz.func107 rfl (vals:=[.slice a1 vals.length c1]) kr ?_
 intro Z a hS hO hM
 replace h1:=h1.m0 hM
 refine rPe T hS [] [] fun a hS=>?_
 refine rPe T hS [] [(3,I 0)] fun a hS=>?_
 refine b5 (fun a w=>∃ Z X,VC107_J1 Q/\St Tryz.f107.ntmps ⟨[(3,I 0)],[]⟩ Z a w X/\Old w0 X0 w X) ?_ ?_
 ·refine rPe T hS [0] [(6,Sl a1 vals c1),(7,I (lN vals)),(8,I 0)] fun a hS=>?_
  refine aN ?_
  obtain ⟨I1,μ1,cy,hm⟩:=hm
  refine cw (σ:=Int) (fun s a w=>∃ Z X,I1 s/\St Tryz.f107.ntmps ⟨[(3,I 0),(6,Sl a1 vals c1),(7,I (lN vals)),(8,I s)],[]⟩ Z a w X/\Old w0 X0 w X/\RS tI w X a1 vals c1) (fun s=>μ1 s) (0) ?_ ?_
  ·exact ⟨Z,_,cy,hS.sl _,hO,h1⟩
  rintro br a pu ⟨Z,lB,hI,hS,hO,h101⟩
  replace hm:=hm br hI
  clear hI cy
  refine rPe T hS [] [(9,B (decide (br < (lN vals))))] fun a hS=>?_
  refine bd ?_
  refine aF hS (b:=decide (br < (lN vals))) kr (fun hb=>?_) fun hb=>?_
  ·replace hm:=hm.1 hb
   refine aL (bd ?_)
   refine aN ?_
   refine bn ?_
   obtain ⟨hq,hm⟩:=hm
   refine op1 (index (e:=3) (k:=.i64) T hS kr kr kr kr h101 kr kr hq.1 hq.2 ?_)
   intro tJ a h104 hS
   refine op1 (eC T hS kr kr kr h104 rfl kr ?_)
   intro v105 a hv hS
   cases hv
   refine ePe T hS [9,10,11] [(5,I (gi vals br))] fun a hS=>?_
   refine rPe T hS [] [(14,B ((gi vals br) != 0))] fun a hS=>?_
   refine aF hS (b:=((gi vals br) != 0)) kr (fun hb=>?_) fun hb=>?_
   ·replace hm:=hm.1 hb
    refine rPe T hS [3,5,6,7,8,14] [(2,I (gi vals br))] fun a hS=>?_
    refine aZ ?_
    exact fin T hS hO (fun c=>c) rfl (r:=[.int .i64 (gi vals br)]) kr (fun X' hM hC=>⟨(gi vals br),hm,rfl⟩)
   replace hm:=hm.2 hb
   refine aL ?_
   refine region (ePe T hS [5,14] [(8,I (wR (br+1)))] fun a hS=>?_)
   exact ⟨wR (br+1),⟨Z,_,hm.1,hS.sl _,hO,h101⟩,hm.2⟩
  replace hm:=hm.2 hb
  refine cl (by rfl) ?_
  exact ⟨Z,_,hm,hS.sl _,hO⟩
 rintro a pm ⟨Z,oG,hm,hS,hO⟩
 unfold VC107_J1 at hm
 refine rPe T hS [3] [(2,I 0)] fun a hS=>?_
 refine aZ ?_
 exact fin T hS hO (fun c=>c) rfl (r:=[.int .i64 0]) kr (fun X' hM hC=>⟨0,hm,rfl⟩)
theorem C107 (v:∀ (vals:List Int),VC107 vals (fun r=>r=gf vals)):S107:=by
 intro w X vals a1 c1   h1
 refine (W107 w X vals a1 c1   _ (v vals) h1).mono ?_
 rintro _ _ _ _ ⟨r,rfl,h⟩
 exact h
theorem W113 (w0) (X0) (x_:Int) (Q:Bool->Prop) (hm:VC113 x_ Q) :
  Ret Tryz.prog 113 #[.int .i64 x_] aJ w0 X0 (fun w X' v=>∃ r,Q r/\v=.bool r):=by
 unfold VC113 at hm
 refine enter Tryz.func113 rfl (vals:=[.int .i64 x_]) kr ?_
 intro Z a hS hO hM
 refine rPe T hS [] [] fun a hS=>?_
 refine rPe T hS [0] [(2,B (x_ != x_))] fun a hS=>?_
 refine aZ ?_
 exact fin T hS hO (fun c=>c) rfl (r:=[.bool (x_ != x_)]) kr (fun X' hM hC=>⟨(x_ != x_),hm,rfl⟩)
theorem C113 (v:∀ (x_:Int),VC113 x_ (fun r=>r=eH x_)):S113:=by
 intro w X x_    
 refine (W113 w X x_    _ (v x_)).mono ?_
 rintro _ _ _ _ ⟨r,rfl,h⟩
 exact h
theorem W108 (CU:S113) (w0) (X0) (x_:Int) (y_:Int) (Q:Int->Prop) (hm:VC108 x_ y_ Q) :
  Ret Tryz.prog 108 #[.int .i64 x_,.int .i64 y_] aJ w0 X0 (fun w X' v=>∃ r,Q r/\v=.int .i64 r):=by
 unfold VC108 at hm
 refine enter Tryz.func108 rfl (vals:=[.int .i64 x_,.int .i64 y_]) kr ?_
 intro Z a hS hO hM
 refine rPe T hS [] [] fun a hS=>?_
 refine bn ?_
 refine oPe T hS 1 [] [(7,I x_)] fun a hS=>?_
 refine op1 (call hS kr kr hb113 kr (fun _ _=>rfl) (CU _ _ x_) ?_)
 intro v101 a fh fo hE hp hS
 replace hO:=hO.m2 hE
 obtain ⟨av,hr⟩:∃ r,eH x_=r:=⟨_,rfl⟩
 replace hm:=hm av hr
 rw [hr] at hp
 clear hr
 subst hp
 refine ePe T hS [7,8] [(5,B av)] fun a hS=>?_
 refine bn ?_
 refine oPe T hS 1 [] [(9,I y_)] fun a hS=>?_
 refine op1 (call hS kr kr hb113 kr (fun _ _=>rfl) (CU _ _ y_) ?_)
 intro v105 a nk ne hE hp hS
 replace hO:=hO.m2 hE
 obtain ⟨a8,hr⟩:∃ r,eH y_=r:=⟨_,rfl⟩
 replace hm:=hm a8 hr
 rw [hr] at hp
 clear hr
 subst hp
 refine ePe T hS [9,10] [(6,B a8)] fun a hS=>?_
 refine bd ?_
 refine rPe T hS [5] [(11,B av)] fun a hS=>?_
 refine aF hS (b:=av) kr (fun hb=>?_) fun hb=>?_
 ·replace hm:=hm.1 hb
  refine bd ?_
  refine rPe T hS [0,1,6,11] [(12,B a8)] fun a hS=>?_
  refine aF hS (b:=a8) kr (fun hb=>?_) fun hb=>?_
  ·replace hm:=hm.1 hb
   refine rPe T hS [12] [(4,I 0)] fun a hS=>?_
   refine aZ ?_
   exact fin T hS hO (fun c=>c) rfl (r:=[.int .i64 0]) kr (fun X' hM hC=>⟨0,hm,rfl⟩)
  replace hm:=hm.2 hb
  refine aL ?_
  refine rPe T hS [12] [(4,I (-1))] fun a hS=>?_
  refine aZ ?_
  exact fin T hS hO (fun c=>c) rfl (r:=[.int .i64 (-1)]) kr (fun X' hM hC=>⟨(-1),hm,rfl⟩)
 replace hm:=hm.2 hb
 refine aL (bd ?_)
 refine rPe T hS [6,11] [(13,B a8)] fun a hS=>?_
 refine aF hS (b:=a8) kr (fun hb=>?_) fun hb=>?_
 ·replace hm:=hm.1 hb
  refine rPe T hS [0,1,13] [(4,I 1)] fun a hS=>?_
  refine aZ ?_
  exact fin T hS hO (fun c=>c) rfl (r:=[.int .i64 1]) kr (fun X' hM hC=>⟨1,hm,rfl⟩)
 replace hm:=hm.2 hb
 refine aL (bd ?_)
 refine rPe T hS [13] [(16,B (decide (x_ < y_)))] fun a hS=>?_
 refine aF hS (b:=decide (x_ < y_)) kr (fun hb=>?_) fun hb=>?_
 ·replace hm:=hm.1 hb
  refine rPe T hS [0,1,16] [(4,I (-1))] fun a hS=>?_
  refine aZ ?_
  exact fin T hS hO (fun c=>c) rfl (r:=[.int .i64 (-1)]) kr (fun X' hM hC=>⟨(-1),hm,rfl⟩)
 replace hm:=hm.2 hb
 refine aL (bd ?_)
 refine rPe T hS [0,1,16] [(19,B (decide (x_ > y_)))] fun a hS=>?_
 refine aF hS (b:=decide (x_ > y_)) kr (fun hb=>?_) fun hb=>?_
 ·replace hm:=hm.1 hb
  refine rPe T hS [19] [(4,I 1)] fun a hS=>?_
  refine aZ ?_
  exact fin T hS hO (fun c=>c) rfl (r:=[.int .i64 1]) kr (fun X' hM hC=>⟨1,hm,rfl⟩)
 replace hm:=hm.2 hb
 refine aL ?_
 refine rPe T hS [19] [(4,I 0)] fun a hS=>?_
 refine aZ ?_
 exact fin T hS hO (fun c=>c) rfl (r:=[.int .i64 0]) kr (fun X' hM hC=>⟨0,hm,rfl⟩)
theorem C108 (CU:S113) (v:∀ (x_:Int) (y_:Int),VC108 x_ y_ (fun r=>r=df x_ y_)):S108:=by
 intro w X x_ y_    
 refine (W108 CU w X x_ y_    _ (v x_ y_)).mono ?_
 rintro _ _ _ _ ⟨r,rfl,h⟩
 exact h
theorem W96 (Fl:S107) (CV:S108) (w0) (X0) (a_:a9) (b_:a9) (Q:Int->Prop) (hm:VC96 a_ b_ Q) :
  Ret Tryz.prog 96 #[.agg #[.int .i64 a_.State,.int .i64 a_.Kind,.int .i64 a_.Next,.int .i64 a_.Result],.agg #[.int .i64 b_.State,.int .i64 b_.Kind,.int .i64 b_.Next,.int .i64 b_.Result]] aJ w0 X0 (fun w X' v=>∃ r,Q r/\v=.int .i64 r):=by
 unfold VC96 at hm
 refine enter Tryz.func96 rfl (vals:=[.agg #[.int .i64 a_.State,.int .i64 a_.Kind,.int .i64 a_.Next,.int .i64 a_.Result],.agg #[.int .i64 b_.State,.int .i64 b_.Kind,.int .i64 b_.Next,.int .i64 b_.Result]]) kr ?_
 intro Z a hS hO hM
 refine rM T hS ⟨[(2,Pt 3 0),(3,Pt 4 0)],[(3,(107,(cR a_))),(4,(107,(cR b_)))]⟩ fun Z a vR B1 hS hE hr=>?_
 replace hO:=hO.m2 hE
 clear hE hr
 refine dq [3,4] mixed hS ?_
 intro n5 oI hS hE hD hH
 replace hO:=hO.m2 hE
 refine tke T [0,2,5,7,1,3,6,8] [3,4] hS hH #[true,true,true,true,false,true,true,true,true,false,false,false,false] 5 [2,3] [(6,I a_.State),(8,I b_.State),(11,I a_.Kind),(13,I b_.Kind)] fun a hS=>?_
 refine only 4 kr (by rfl) (call hS kr kr hb108 kr (fun _ _=>rfl) (CV _ _ a_.State b_.State) ?_)
 intro v103 a yG oH hE hp hS
 replace hO:=hO.m2 hE
 replace hD:=hD.ev hE rfl
 obtain ⟨f8,hr⟩:∃ r,df a_.State b_.State=r:=⟨_,rfl⟩
 replace hm:=hm f8 hr
 rw [hr] at hp
 clear hr
 subst hp
 replace hS:=hS.sle [] [(9,I f8)]
 refine cV (bI.of hS (bks:=[3,4]) kr hD) ?_
 intro hH
 refine only 9 kr (by rfl) (call hS kr kr hb108 kr (fun _ _=>rfl) (CV _ _ a_.Kind b_.Kind) ?_)
 intro v107 a EK B2 hE hp hS
 replace hO:=hO.m2 hE
 replace hD:=hD.ev hE rfl
 obtain ⟨fa,hr⟩:∃ r,df a_.Kind b_.Kind=r:=⟨_,rfl⟩
 replace hm:=hm fa hr
 rw [hr] at hp
 clear hr
 subst hp
 replace hS:=hS.sle [] [(14,I fa)]
 refine cV (bI.of hS (bks:=[3,4]) kr hD) ?_
 intro hH
 refine only 10 kr (by rfl) (lit (E:=3) (col:=0) (T:=tI) (vals:=[.int .i64 f8,.int .i64 fa]) (ys:=[f8,fa]) T hS kr kr kr kr (by exact ⟨rfl,rfl,trivial⟩) rfl kr kr kr kr ?_)
 intro b111 a Ag vA hE h114 hN hS
 clear hN
 replace hO:=hO.m2 hE
 replace hD:=hD.ev hE rfl
 replace h114:=h114.rs0
 refine cV (bI.of hS (bks:=[3,4]) kr hD) ?_
 intro hH
 refine only 11 kr (by rfl) (call hS kr kr hb107 kr (fun _ _=>rfl) (Fl _ _ [f8,fa] (some ⟨b111,0,none⟩) 2 h114) ?_)
 intro v115 a tS wZ hE hp hS
 replace hO:=hO.m2 hE
 replace hD:=hD.ev hE rfl
 replace h114:=h114.m1 hE
 obtain ⟨gW,hr⟩:∃ r,gf [f8,fa]=r:=⟨_,rfl⟩
 replace hm:=hm gW hr
 rw [hr] at hp
 clear hr
 subst hp
 replace hS:=hS.sle [] [(16,I gW)]
 refine cV (bI.of hS (bks:=[3,4]) kr hD) ?_
 intro hH
 refine tke T [12] [3,4] hS hH (tts 13) 0 [6,8,11,13,9,14,15,16] [(4,I gW)] fun a hS=>?_
 refine aV kr ?_
 replace hS:=hS.sl ⟨[(4,I gW)],[]⟩
 refine aZ ?_
 exact fin T hS hO (fun c=>c) rfl (r:=[.int .i64 gW]) kr (fun X' hM hC=>⟨gW,hm,rfl⟩)
theorem C96 (Fl:S107) (CV:S108) (v:∀ (a_:a9) (b_:a9),VC96 a_ b_ (fun r=>r=fZ a_ b_)):S96:=by
 intro w X a_ b_    
 refine (W96 Fl CV w X a_ b_    _ (v a_ b_)).mono ?_
 rintro _ _ _ _ ⟨r,rfl,h⟩
 exact h
theorem W82 (z3:S81) (JL:S96) (w0) (X0) (o_:al) (i_:Int) (a1) (c1) (Q:Int->Prop) (hm:VC82 o_ i_ Q) (h1:RS ay w0 X0 a1 o_.Rows c1) :
  Ret Tryz.prog 82 #[.agg #[.int .i64 o_.aq,.int .i64 o_.ax,.int .i64 o_.aE,.slice a1 o_.Rows.length c1],.int .i64 i_] aJ w0 X0 (fun w X' v=>∃ r,Q r/\v=.int .i64 r):=by
 unfold VC82 at hm
 replace hm:=hm (h1.sm kr)
 refine enter Tryz.func82 rfl (vals:=[.agg #[.int .i64 o_.aq,.int .i64 o_.ax,.int .i64 o_.aE,.slice a1 o_.Rows.length c1],.int .i64 i_]) kr ?_
 intro Z a hS hO hM
 replace h1:=h1.m0 hM
 refine rM T hS ⟨[(1,I i_),(2,Pt 3 0)],[(3,(48,(cO o_ a1 c1)))]⟩ fun Z a Cy F5 hS hE hr=>?_
 replace hO:=hO.m2 hE
 replace h1:=h1.m1 hE
 clear hE hr
 refine bn ?_
 refine oPe T hS 3 [] [(7,Sl a1 o_.Rows c1),(8,I i_)] fun a hS=>?_
 obtain ⟨hq,hm⟩:=hm
 refine op1 (index (e:=107) (k:=.i64) T hS kr kr kr kr h1 kr kr hq.1 hq.2 ?_)
 intro IP a h102 hS
 refine op1 (eB T hS kr kr kr h102 kr kr ?_)
 intro v103 a hv hS
 subst hv
 refine eM T hS ⟨[(1,I i_),(2,Pt 3 0),(5,Pt 6 0)],[(3,(48,(cO o_ a1 c1))),(6,(107,(cR (gi o_.Rows i_))))]⟩ fun Z a sh vz hS hE hr=>?_
 replace hO:=hO.m2 hE
 replace h1:=h1.m1 hE
 clear hE hr
 refine bd ?_
 refine aN ?_
 refine b5 (fun a w=>∃ (Z:Nat->Nat) (X:Nat->Nat) (fD:Bool),VC82_J1 o_ i_ Q fD/\St Tryz.f82.ntmps ⟨[(1,I i_),(2,Pt 3 0),(5,Pt 6 0),(11,B fD)],[(3,(48,(cO o_ a1 c1))),(6,(107,(cR (gi o_.Rows i_))))]⟩ Z a w X/\Old w0 X0 w X/\RS ay w X a1 o_.Rows c1) ?_ ?_
 ·refine region ?_
  refine oPe T hS 4 [] [(13,I ((gi o_.Rows i_).State)),(15,I o_.aq)] fun a hS=>?_
  refine op1 (call hS kr kr hb81 kr (fun _ _=>rfl) (z3 _ _ ((gi o_.Rows i_).State) o_.aq) ?_)
  intro v126 a si zY hE hp hS
  replace hO:=hO.m2 hE
  replace h1:=h1.m1 hE
  obtain ⟨wj,hr⟩:∃ r,bU ((gi o_.Rows i_).State) o_.aq=r:=⟨_,rfl⟩
  replace hm:=hm wj hr
  rw [hr] at hp
  clear hr
  subst hp
  refine oPe T hS 2 [13,15,16] [(18,B (!wj))] fun a hS=>?_
  rcases bft (!wj) with hb | hb
  ·replace hS:=hS.lit (t:=18) kr hb
   replace hm:=hm.1 hb
   refine ePe T hS [18] [(11,B true)] fun a hS=>?_
   exact ⟨Z,_,true,hm,hS.sl _,hO,h1⟩
  replace hS:=hS.lit (t:=18) kr hb
  replace hm:=hm.2 hb
  refine oPe T hS 4 [] [(20,I ((gi o_.Rows i_).Next)),(22,I o_.aq)] fun a hS=>?_
  refine op1 (call hS kr kr hb81 kr (fun _ _=>rfl) (z3 _ _ ((gi o_.Rows i_).Next) o_.aq) ?_)
  intro v130 a qZ qQ hE hp hS
  replace hO:=hO.m2 hE
  replace h1:=h1.m1 hE
  obtain ⟨ji,hr⟩:∃ r,bU ((gi o_.Rows i_).Next) o_.aq=r:=⟨_,rfl⟩
  replace hm:=hm ji hr
  rw [hr] at hp
  clear hr
  subst hp
  refine ePe T hS [18,20,22,23] [(11,B (!ji))] fun a hS=>?_
  exact ⟨Z,_,(!ji),hm,hS.sl _,hO,h1⟩
 rintro a Cz ⟨Z,BX,fD,hm,hS,hO,h105⟩
 unfold VC82_J1 at hm
 refine aF hS (b:=fD) kr (fun hb=>?_) fun hb=>?_
 ·replace hm:=hm.1 hb
  refine rP T hS ⟨[(4,I 30)],[]⟩ fun a hS=>?_
  refine aZ ?_
  exact fin T hS hO (fun c=>c) rfl (r:=[.int .i64 30]) kr (fun X' hM hC=>⟨30,hm,rfl⟩)
 replace hm:=hm.2 hb
 refine bn ?_
 refine oPe T hS 4 [11] [(28,I ((gi o_.Rows i_).Kind)),(30,I o_.ax)] fun a hS=>?_
 refine op1 (call hS kr kr hb81 kr (fun _ _=>rfl) (z3 _ _ ((gi o_.Rows i_).Kind) o_.ax) ?_)
 intro v106 a pu oG hE hp hS
 replace hO:=hO.m2 hE
 replace h105:=h105.m1 hE
 obtain ⟨iI,hr⟩:∃ r,bU ((gi o_.Rows i_).Kind) o_.ax=r:=⟨_,rfl⟩
 replace hm:=hm iI hr
 rw [hr] at hp
 clear hr
 subst hp
 refine ePe T hS [28,30,31] [(26,B (!iI))] fun a hS=>?_
 refine aF hS (b:=(!iI)) kr (fun hb=>?_) fun hb=>?_
 ·replace hm:=hm.1 hb
  refine rP T hS ⟨[(4,I 31)],[]⟩ fun a hS=>?_
  refine aZ ?_
  exact fin T hS hO (fun c=>c) rfl (r:=[.int .i64 31]) kr (fun X' hM hC=>⟨31,hm,rfl⟩)
 replace hm:=hm.2 hb
 refine bn ?_
 refine oPe T hS 2 [26] [(35,I ((gi o_.Rows i_).Result))] fun a hS=>?_
 refine op1 (call hS kr kr hb81 kr (fun _ _=>rfl) (z3 _ _ ((gi o_.Rows i_).Result) 1000001) ?_)
 intro v110 a CA tG hE hp hS
 replace hO:=hO.m2 hE
 replace h105:=h105.m1 hE
 obtain ⟨fF,hr⟩:∃ r,bU ((gi o_.Rows i_).Result) 1000001=r:=⟨_,rfl⟩
 replace hm:=hm fF hr
 rw [hr] at hp
 clear hr
 subst hp
 refine ePe T hS [35,36] [(33,B (!fF))] fun a hS=>?_
 refine aF hS (b:=(!fF)) kr (fun hb=>?_) fun hb=>?_
 ·replace hm:=hm.1 hb
  refine rP T hS ⟨[(4,I 7)],[]⟩ fun a hS=>?_
  refine aZ ?_
  exact fin T hS hO (fun c=>c) rfl (r:=[.int .i64 7]) kr (fun X' hM hC=>⟨7,hm,rfl⟩)
 replace hm:=hm.2 hb
 refine b5 (fun a w=>∃ (Z:Nat->Nat) (X:Nat->Nat) (ii:Bool),VC82_J2 Q ii/\St Tryz.f82.ntmps ⟨[(38,B ii)],[]⟩ Z a w X/\Old w0 X0 w X) ?_ ?_
 ·refine gH [3,6] mixed hS ?_
  intro o5 tF hS hE hD hH
  replace hO:=hO.m2 hE
  replace h105:=h105.m1 hE
  refine tke T [0,1,2] [3,6] hS hH #[true,true,true,false,false,false,false,false,false,false,false,false,false,false] 11 [] [(41,B (decide (i_ > 0)))] fun a hS=>?_
  rcases bft (decide (i_ > 0)) with hb | hb
  ·replace hS:=hS.lit (t:=41) kr hb
   replace hm:=hm.1 hb
   refine tke T [3,5,9,4,6] [3,6] hS hH #[true,true,true,true,true,true,true,false,false,true,false,false,false,false] 6 [1,2,5] [(43,Sl a1 o_.Rows c1),(45,I (wR (i_ - 1))),(48,V (.agg #[.int .i64 ((gi o_.Rows i_).State),.int .i64 ((gi o_.Rows i_).Kind),.int .i64 ((gi o_.Rows i_).Next),.int .i64 ((gi o_.Rows i_).Result)]))] fun a hS=>?_
   obtain ⟨hq,hm⟩:=hm
   refine c6 (e:=107) (k:=.i64) T 7 hS kr kr kr (by rfl) kr hH kr kr h105 kr kr hq.1 hq.2 ?_
   intro L9 a h118 hS
   have HL:=h118.here
   refine ku T 8 hS kr kr kr (by rfl) kr hH kr h118 HL kr kr ?_
   intro v119 a hv hS
   subst hv
   refine only 10 kr (by rfl) (call hS kr kr hb96 kr (fun _ _=>rfl) (JL _ _ (gi o_.Rows (wR (i_ - 1))) (gi o_.Rows i_)) ?_)
   intro v120 a vQ B0 hE hp hS
   replace hO:=hO.m2 hE
   replace hD:=hD.ev hE rfl
   replace h105:=h105.m1 hE
   replace h118:=h118.m1 hE
   obtain ⟨um,hr⟩:∃ r,fZ (gi o_.Rows (wR (i_ - 1))) (gi o_.Rows i_)=r:=⟨_,rfl⟩
   replace hm:=hm um hr
   rw [hr] at hp
   clear hr
   subst hp
   replace hS:=hS.sle [] [(49,I um)]
   refine cV (bI.of hS (bks:=[3,6]) kr hD) ?_
   intro hH
   refine tke T [11,12,13] [3,6] hS hH (tts 14) 0 [41,43,45,48,46,47,49] [(38,B (decide (um≥0)))] fun a hS=>?_
   refine aV kr ?_
   replace hS:=hS.sl ⟨[(38,B (decide (um≥0)))],[]⟩
   exact ⟨Z,_,decide (um≥0),hm,hS.sl _,hO⟩
  replace hS:=hS.lit (t:=41) kr hb
  replace hm:=hm.2 hb
  refine tke T [3,5,9,4,6,7,8,10,11,12,13] [3,6] hS hH (tts 14) 0 [1,2,5,41] [(38,B false)] fun a hS=>?_
  refine aV kr ?_
  replace hS:=hS.sl ⟨[(38,B false)],[]⟩
  exact ⟨Z,_,false,hm,hS.sl _,hO⟩
 rintro a yE ⟨Z,wY,ii,hm,hS,hO⟩
 unfold VC82_J2 at hm
 refine aF hS (b:=ii) kr (fun hb=>?_) fun hb=>?_
 ·replace hm:=hm.1 hb
  refine rPe T hS [38] [(4,I 32)] fun a hS=>?_
  refine aZ ?_
  exact fin T hS hO (fun c=>c) rfl (r:=[.int .i64 32]) kr (fun X' hM hC=>⟨32,hm,rfl⟩)
 replace hm:=hm.2 hb
 refine aL ?_
 refine rPe T hS [38] [(4,I 0)] fun a hS=>?_
 refine aZ ?_
 exact fin T hS hO (fun c=>c) rfl (r:=[.int .i64 0]) kr (fun X' hM hC=>⟨0,hm,rfl⟩)
theorem C82 (z3:S81) (JL:S96) (v:∀ (o_:al) (i_:Int),preRow o_ i_->VC82 o_ i_ (fun r=>r=hK o_ i_)):S82:=by
 intro w X o_ i_ a1 c1   hp h1
 refine (W82 z3 JL w X o_ i_ a1 c1   _ (v o_ i_ hp) h1).mono ?_
 rintro _ _ _ _ ⟨r,rfl,h⟩
 exact h
theorem W53 (z3:S81) (JW:S82) (w0) (X0) (o_:al) (a1) (c1) (Q:Int × Int->Prop) (hm:VC53 o_ Q) (h1:RS ay w0 X0 a1 o_.Rows c1) :
  Ret Tryz.prog 53 #[.agg #[.int .i64 o_.aq,.int .i64 o_.ax,.int .i64 o_.aE,.slice a1 o_.Rows.length c1]] aJ w0 X0 (fun w X' v=>∃ r,Q r/\v=.tuple #[.int .i64 r.1,.int .i64 r.2]):=by
 unfold VC53 at hm
 replace hm:=hm (h1.sm kr)
 refine enter Tryz.func53 rfl (vals:=[.agg #[.int .i64 o_.aq,.int .i64 o_.ax,.int .i64 o_.aE,.slice a1 o_.Rows.length c1]]) kr ?_
 intro Z a hS hO hM
 replace h1:=h1.m0 hM
 refine rM T hS ⟨[(1,Pt 2 0)],[(2,(48,(cO o_ a1 c1)))]⟩ fun Z a q5 rb hS hE hr=>?_
 replace hO:=hO.m2 hE
 replace h1:=h1.m1 hE
 clear hE hr
 refine bd ?_
 refine b5 (fun a w=>∃ (Z:Nat->Nat) (X:Nat->Nat) (bv:Bool),VC53_J1 o_ Q bv/\St Tryz.f53.ntmps ⟨[(1,Pt 2 0),(25,B bv)],[(2,(48,(cO o_ a1 c1)))]⟩ Z a w X/\Old w0 X0 w X/\RS ay w X a1 o_.Rows c1) ?_ ?_
 ·refine region ?_
  refine oPe T hS 3 [] [(8,I (wR (o_.aq - 1)))] fun a hS=>?_
  refine op1 (call hS kr kr hb81 kr (fun _ _=>rfl) (z3 _ _ (wR (o_.aq - 1)) 32) ?_)
  intro v114 a o5 tF hE hp hS
  replace hO:=hO.m2 hE
  replace h1:=h1.m1 hE
  obtain ⟨d4,hr⟩:∃ r,bU (wR (o_.aq - 1)) 32=r:=⟨_,rfl⟩
  replace hm:=hm d4 hr
  rw [hr] at hp
  clear hr
  subst hp
  refine oPe T hS 2 [8,9] [(11,B (!d4))] fun a hS=>?_
  rcases bft (!d4) with hb | hb
  ·replace hS:=hS.lit (t:=11) kr hb
   replace hm:=hm.1 hb
   refine ePe T hS [11] [(25,B true)] fun a hS=>?_
   exact ⟨Z,_,true,hm,hS.sl _,hO,h1⟩
  replace hS:=hS.lit (t:=11) kr hb
  replace hm:=hm.2 hb
  refine oPe T hS 3 [] [(14,I (wR (o_.ax - 1)))] fun a hS=>?_
  refine op1 (call hS kr kr hb81 kr (fun _ _=>rfl) (z3 _ _ (wR (o_.ax - 1)) 64) ?_)
  intro v118 a vR B1 hE hp hS
  replace hO:=hO.m2 hE
  replace h1:=h1.m1 hE
  obtain ⟨fy,hr⟩:∃ r,bU (wR (o_.ax - 1)) 64=r:=⟨_,rfl⟩
  replace hm:=hm fy hr
  rw [hr] at hp
  clear hr
  subst hp
  refine oPe T hS 3 [11,14,15] [(18,B (!fy))] fun a hS=>?_
  rcases bft (!fy) with hb | hb
  ·replace hS:=hS.lit (t:=18) kr hb
   replace hm:=hm.1 hb
   refine ePe T hS [18] [(25,B true)] fun a hS=>?_
   exact ⟨Z,_,true,hm,hS.sl _,hO,h1⟩
  replace hS:=hS.lit (t:=18) kr hb
  replace hm:=hm.2 hb
  refine oPe T hS 4 [] [(20,I o_.aE),(22,I o_.aq)] fun a hS=>?_
  refine op1 (call hS kr kr hb81 kr (fun _ _=>rfl) (z3 _ _ o_.aE o_.aq) ?_)
  intro v122 a EI wY hE hp hS
  replace hO:=hO.m2 hE
  replace h1:=h1.m1 hE
  obtain ⟨yX,hr⟩:∃ r,bU o_.aE o_.aq=r:=⟨_,rfl⟩
  replace hm:=hm yX hr
  rw [hr] at hp
  clear hr
  subst hp
  refine ePe T hS [18,20,22,23] [(25,B (!yX))] fun a hS=>?_
  exact ⟨Z,_,(!yX),hm,hS.sl _,hO,h1⟩
 rintro a si ⟨Z,wX,bv,hm,hS,hO,h102⟩
 unfold VC53_J1 at hm
 refine aF hS (b:=bv) kr (fun hb=>?_) fun hb=>?_
 ·replace hm:=hm.1 hb
  refine rP T hS ⟨[(2,I (-1)),(3,I 2)],[]⟩ fun a hS=>?_
  refine aZ ?_
  exact fin T hS hO (fun c=>c) rfl (r:=[.int .i64 (-1),.int .i64 2]) kr (fun X' hM hC=>⟨((-1),2),hm,rfl⟩)
 replace hm:=hm.2 hb
 refine aL ?_
 refine b5 (fun a w=>∃ Z X,VC53_J2 o_ Q/\St Tryz.f53.ntmps ⟨[(1,Pt 2 0)],[(2,(48,(cO o_ a1 c1)))]⟩ Z a w X/\Old w0 X0 w X/\RS ay w X a1 o_.Rows c1) ?_ ?_
 ·refine rPe T hS [25] [(28,I (lN o_.Rows)),(29,I 0)] fun a hS=>?_
  refine aN ?_
  obtain ⟨I1,μ1,cy,hm⟩:=hm
  refine cw (σ:=Int) (fun s a w=>∃ Z X,I1 s/\St Tryz.f53.ntmps ⟨[(1,Pt 2 0),(28,I (lN o_.Rows)),(29,I s)],[(2,(48,(cO o_ a1 c1)))]⟩ Z a w X/\Old w0 X0 w X/\RS ay w X a1 o_.Rows c1) (fun s=>μ1 s) (0) ?_ ?_
  ·exact ⟨Z,_,cy,hS.sl _,hO,h102⟩
  rintro fD a CA ⟨Z,rc,hI,hS,hO,h105⟩
  replace hm:=hm fD hI
  clear hI cy
  refine rPe T hS [] [(30,B (decide (fD < (lN o_.Rows))))] fun a hS=>?_
  refine bd ?_
  refine aF hS (b:=decide (fD < (lN o_.Rows))) kr (fun hb=>?_) fun hb=>?_
  ·replace hm:=hm.1 hb
   refine aL (bd ?_)
   refine aN ?_
   refine rPe T hS [30] [(4,I fD)] fun a hS=>?_
   refine bn ?_
   refine oPe T hS 2 [] [(32,V (.agg #[.int .i64 o_.aq,.int .i64 o_.ax,.int .i64 o_.aE,.slice a1 o_.Rows.length c1])),(33,I fD)] fun a hS=>?_
   obtain ⟨hq,hm⟩:=hm
   refine op1 (call hS kr kr hb82 kr (fun _ _=>rfl) (JW _ _ o_ fD a1 c1 hq h105) ?_)
   intro v106 a pu oG hE hp hS
   replace hO:=hO.m2 hE
   replace h105:=h105.m1 hE
   obtain ⟨iI,hr⟩:∃ r,hK o_ fD=r:=⟨_,rfl⟩
   replace hm:=hm iI hr
   rw [hr] at hp
   clear hr
   subst hp
   refine ePe T hS [32,33,34] [(5,I iI)] fun a hS=>?_
   refine rPe T hS [] [(36,B (iI != 0))] fun a hS=>?_
   refine aF hS (b:=(iI != 0)) kr (fun hb=>?_) fun hb=>?_
   ·replace hm:=hm.1 hb
    refine rP T hS ⟨[(2,I fD),(3,I iI)],[]⟩ fun a hS=>?_
    refine aZ ?_
    exact fin T hS hO (fun c=>c) rfl (r:=[.int .i64 fD,.int .i64 iI]) kr (fun X' hM hC=>⟨(fD,iI),hm,rfl⟩)
   replace hm:=hm.2 hb
   refine aL ?_
   refine region (ePe T hS [4,5,36] [(29,I (wR (fD+1)))] fun a hS=>?_)
   exact ⟨wR (fD+1),⟨Z,_,hm.1,hS.sl _,hO,h105⟩,hm.2⟩
  replace hm:=hm.2 hb
  refine cl (by rfl) ?_
  exact ⟨Z,_,hm,hS.sl _,hO,h105⟩
 rintro a vS ⟨Z,tG,hm,hS,hO,h103⟩
 unfold VC53_J2 at hm
 refine rP T hS ⟨[(2,I (lN o_.Rows)),(3,I 0)],[]⟩ fun a hS=>?_
 refine aZ ?_
 exact fin T hS hO (fun c=>c) rfl (r:=[.int .i64 (lN o_.Rows),.int .i64 0]) kr (fun X' hM hC=>⟨((lN o_.Rows),0),hm,rfl⟩)
theorem C53 (z3:S81) (JW:S82) (v:∀ (o_:al),jV o_->VC53 o_ (fun r=>r=bq o_)):S53:=by
 intro w X o_ a1 c1   hp h1
 refine (W53 z3 JW w X o_ a1 c1   _ (v o_ hp) h1).mono ?_
 rintro _ _ _ _ ⟨r,rfl,h⟩
 exact h
theorem W85 (tb:S53) (w0) (X0) (o_:al) (state:Int) (a1) (c1) (Q:Int->Prop) (hm:VC85 o_ state Q) (h1:RS ay w0 X0 a1 o_.Rows c1) :
  Ret Tryz.prog 85 #[.agg #[.int .i64 o_.aq,.int .i64 o_.ax,.int .i64 o_.aE,.slice a1 o_.Rows.length c1],.int .i64 state] aJ w0 X0 (fun w X' v=>∃ r,Q r/\v=.int .i64 r):=by
 unfold VC85 at hm
 replace hm:=hm (h1.sm kr)
 refine enter Tryz.func85 rfl (vals:=[.agg #[.int .i64 o_.aq,.int .i64 o_.ax,.int .i64 o_.aE,.slice a1 o_.Rows.length c1],.int .i64 state]) kr ?_
 intro Z a hS hO hM
 replace h1:=h1.m0 hM
 refine rM T hS ⟨[(1,I state),(2,Pt 3 0)],[(3,(48,(cO o_ a1 c1)))]⟩ fun Z a mH lB hS hE hr=>?_
 replace hO:=hO.m2 hE
 replace h1:=h1.m1 hE
 clear hE hr
 refine bd ?_
 refine bn ?_
 refine oPe T hS 1 [] [(8,V (.agg #[.int .i64 o_.aq,.int .i64 o_.ax,.int .i64 o_.aE,.slice a1 o_.Rows.length c1]))] fun a hS=>?_
 obtain ⟨hq,hm⟩:=hm
 refine op1 (call hS kr kr hb53 kr (fun _ _=>rfl) (tb _ _ o_ a1 c1 hq h1) ?_)
 intro v101 a fh fo hE hp hS
 replace hO:=hO.m2 hE
 replace h1:=h1.m1 hE
 obtain ⟨av,hr⟩:∃ r,bq o_=r:=⟨_,rfl⟩
 replace hm:=hm av hr
 rw [hr] at hp
 clear hr
 subst hp
 refine ePe T hS [8,9] [(6,I av.2)] fun a hS=>?_
 refine rPe T hS [6] [(13,B (av.2 != 0))] fun a hS=>?_
 refine aF hS (b:=(av.2 != 0)) kr (fun hb=>?_) fun hb=>?_
 ·replace hm:=hm.1 hb
  refine rP T hS ⟨[(4,I 2)],[]⟩ fun a hS=>?_
  refine aZ ?_
  exact fin T hS hO (fun c=>c) rfl (r:=[.int .i64 2]) kr (fun X' hM hC=>⟨2,hm,rfl⟩)
 replace hm:=hm.2 hb
 refine aL (bd ?_)
 refine rP T hS ⟨[(21,B ((decide (state < 0)) || (decide (state≥o_.aq))))],[]⟩ (sp:=[16]) fun a hS=>?_
 refine aF hS (b:=((decide (state < 0)) || (decide (state≥o_.aq)))) kr (fun hb=>?_) fun hb=>?_
 ·replace hm:=hm.1 hb
  refine rPe T hS [21] [(4,I 30)] fun a hS=>?_
  refine aZ ?_
  exact fin T hS hO (fun c=>c) rfl (r:=[.int .i64 30]) kr (fun X' hM hC=>⟨30,hm,rfl⟩)
 replace hm:=hm.2 hb
 refine aL ?_
 refine rPe T hS [21] [(4,I 0)] fun a hS=>?_
 refine aZ ?_
 exact fin T hS hO (fun c=>c) rfl (r:=[.int .i64 0]) kr (fun X' hM hC=>⟨0,hm,rfl⟩)
theorem C85 (tb:S53) (v:∀ (o_:al) (state:Int),xz o_ state->VC85 o_ state (fun r=>r=fG o_ state)):S85:=by
 intro w X o_ state a1 c1   hp h1
 refine (W85 tb w X o_ state a1 c1   _ (v o_ state hp) h1).mono ?_
 rintro _ _ _ _ ⟨r,rfl,h⟩
 exact h
theorem W86 (w0) (X0) (o_:al) (l_:List ab) (state:Int) (a1) (c1) (a2) (c2) (cz) (dJ) (i5) (ow) (ov) (Q:(List ab) × (List (Int × Int)) × al × Int->Prop) (hm:VC86 o_ l_ state Q) (h1:RS ay w0 X0 a1 o_.Rows c1) (h2:RS ao w0 X0 a2 l_ c2) :
  Ret Tryz.prog 86 #[.agg #[.int .i64 o_.aq,.int .i64 o_.ax,.int .i64 o_.aE,.slice a1 o_.Rows.length c1],.slice a2 l_.length c2,.int .i64 state] aJ w0 X0 (fun w X' v=>∃ r,Q r/\∃ cB cA GR oO oN t0 GW GV GU,v=.func (.func 97) #[] #[.pointer (some ⟨t0,0,none⟩),.pointer (some ⟨GW,0,none⟩),.pointer (some ⟨GV,0,none⟩),.pointer (some ⟨GU,0,none⟩)]/\RS ao w X' cB r.1 cA/\RS ay w X' oO r.2.2.1.Rows oN/\Cell w X' t0 dJ 42 [.slice cB r.1.length cA]/\Cell w X' GW i5 113 [.map (some GR)]/\OM kI tI false w X' cz GR r.2.1/\Cell w X' GV ow 48 [.int .i64 r.2.2.1.aq,.int .i64 r.2.2.1.ax,.int .i64 r.2.2.1.aE,.slice oO r.2.2.1.Rows.length oN]/\Cell w X' GU ov 3 [.int .i64 r.2.2.2]):=by
 unfold VC86 at hm
 replace hm:=hm (h1.sm kr)
 replace hm:=hm (h2.sm kr)
 refine enter Tryz.func86 rfl (vals:=[.agg #[.int .i64 o_.aq,.int .i64 o_.ax,.int .i64 o_.aE,.slice a1 o_.Rows.length c1],.slice a2 l_.length c2,.int .i64 state]) kr ?_
 intro Z a hS hO hM
 replace h1:=h1.m0 hM
 replace h2:=h2.m0 hM
 refine rM T hS ⟨[(3,Pt 4 0),(4,Pt 5 0),(5,Pt 6 0)],[(4,(48,(cO o_ a1 c1))),(5,(42,[Sl a2 l_ c2])),(6,(3,[I state]))]⟩ fun Z a pu oG hS hE hr=>?_
 replace hO:=hO.m2 hE
 replace h1:=h1.m1 hE
 replace h2:=h2.m1 hE
 clear hE hr
 refine bn ?_
 refine op1 (oR kI tI false 1009 hS kr kr ?_)
 intro dN a fh fo hE h104 hS
 replace hO:=hO.m2 hE
 replace h1:=h1.m1 hE
 replace h2:=h2.m1 hE
 refine eM T hS ⟨[(3,Pt 4 0),(4,Pt 5 0),(5,Pt 6 0),(7,Pt 8 0)],[(4,(48,(cO o_ a1 c1))),(5,(42,[Sl a2 l_ c2])),(6,(3,[I state])),(8,(113,[V (.map (some dN))]))]⟩ fun Z a mH lB hS hE hr=>?_
 replace hO:=hO.m2 hE
 replace h1:=h1.m1 hE
 replace h2:=h2.m1 hE
 replace h104:=h104.m2 hE
 clear hE hr
 refine rPe T hS [3,4,5,7] [(6,.f (.func 97) [] [.p 5 0,.p 8 0,.p 4 0,.p 6 0])] fun a hS=>?_
 refine aZ ?_
 exact fin T hS hO (zAa0 ov ow i5 dJ cz) rfl (r:=[.func (.func 97) #[] #[.pointer (some ⟨Z 5,0,none⟩),.pointer (some ⟨Z 8,0,none⟩),.pointer (some ⟨Z 4,0,none⟩),.pointer (some ⟨Z 6,0,none⟩)]]) kr (fun X' hM hC=>⟨(l_,([]:List (Int × Int)),o_,state),hm,a2,c2,dN,a1,c1,(Z 5),(Z 8),(Z 4),(Z 6),rfl,h2.m0 hM,h1.m0 hM,((hS.cell (id:=5) (t:=42) (cs:=[Sl a2 l_ c2]) kr).out (f:=(zAa0 ov ow i5 dJ cz)) hC kr kr rfl),((hS.cell (id:=8) (t:=113) (cs:=[V (.map (some dN))]) kr).out (f:=(zAa0 ov ow i5 dJ cz)) hC kr kr rfl),(h104.out (f:=(zAa0 ov ow i5 dJ cz)) hM hC kr kr),((hS.cell (id:=4) (t:=48) (cs:=(cO o_ a1 c1)) kr).out (f:=(zAa0 ov ow i5 dJ cz)) hC kr kr rfl),((hS.cell (id:=6) (t:=3) (cs:=[I state]) kr).out (f:=(zAa0 ov ow i5 dJ cz)) hC kr kr rfl)⟩)
theorem C86 (v:∀ (o_:al) (l_:List ab) (state:Int),VC86 o_ l_ state (fun r=>r=dS o_ l_ state)):S86:=by
 intro w X o_ l_ state a1 c1 a2 c2 cz dJ i5 ow ov  h1 h2
 refine (W86 w X o_ l_ state a1 c1 a2 c2 cz dJ i5 ow ov  _ (v o_ l_ state) h1 h2).mono ?_
 rintro _ _ _ _ ⟨r,rfl,h⟩
 exact h
theorem W110 (w0) (X0) (r_:a9) (am:Int) (ap:Int) (b1) (i1) (b2) (i2) (Q:Bool->Prop) (hm:VC110 r_ am ap Q) (ff:Cell w0 X0 b1 i1 3 [.int .i64 am]) (gE:Cell w0 X0 b2 i2 3 [.int .i64 ap]) (hA:dH [i1,i2]) :
  Ret Tryz.prog 110 #[.agg #[.int .i64 r_.State,.int .i64 r_.Kind,.int .i64 r_.Next,.int .i64 r_.Result],.pointer (some ⟨b1,0,none⟩),.pointer (some ⟨b2,0,none⟩)] (pR [i1,i2]) w0 X0 (fun w X' v=>∃ r,Q r/\v=.bool r/\Cell w X' b1 i1 3 [.int .i64 am]/\Cell w X' b2 i2 3 [.int .i64 ap]):=by
 unfold VC110 at hm
 refine fB Tryz.func110 rfl (dx [(i1,901),(i2,902)]) (fun id=>(bif Nat.beq id 901 then b1 else (bif Nat.beq id 902 then b2 else 0))) (args:=[V (.agg #[.int .i64 r_.State,.int .i64 r_.Kind,.int .i64 r_.Next,.int .i64 r_.Result]),Pt 901 0,Pt 902 0]) (bxs:=[(901,(3,[I am])),(902,(3,[I ap]))]) kr rfl (bm.cons kr (ff.map (bK 0 hA.1 rfl)) (bm.cons kr (gE.map (bK 1 hA.1 rfl)) bm.nil)) (fm (fun q hq=>(hA.2 q.1 (List.mem_map.2 ⟨q,hq,rfl⟩)).1)) ?_
 intro a hS hO hM
 have hP:Pin [(901,b1),(902,b2)] (fun id=>(bif Nat.beq id 901 then b1 else (bif Nat.beq id 902 then b2 else 0))):=by intro q hq; simp at hq; rcases hq with rfl | rfl <;> rfl
 generalize (fun id=>(bif Nat.beq id 901 then b1 else (bif Nat.beq id 902 then b2 else 0)))=Z at hS hP
 clear ff gE
 refine rM T hS ⟨[(1,Pt 901 0),(2,Pt 902 0),(3,Pt 4 0)],[(4,(107,(cR r_))),(901,(3,[I am])),(902,(3,[I ap]))]⟩ fun Z a n5 oI hS hE hr=>?_
 replace hO:=hO.m2 hE
 replace hP:=hP.mv hr kr
 clear hE hr
 refine bn ?_
 refine oP T hS 8 ⟨[(5,V (.agg #[.int .i64 r_.State,.int .i64 r_.Kind,.int .i64 r_.Next,.int .i64 r_.Result])),(12,V (.agg #[.int .i64 am,.int .i64 ap,.int .i64 r_.Next,.int .i64 r_.Result]))],[(901,(3,[I am])),(902,(3,[I ap]))]⟩ fun a hS=>?_
 refine op1 (structEq (op:=.eql) (xs:=[.int .i64 r_.State,.int .i64 r_.Kind,.int .i64 r_.Next,.int .i64 r_.Result]) (ys:=[.int .i64 am,.int .i64 ap,.int .i64 r_.Next,.int .i64 r_.Result]) (r:=(r_.State == am && (r_.Kind == ap && (r_.Next == r_.Next && (r_.Result == r_.Result && true))))) (b:=(r_.State == am && (r_.Kind == ap && (r_.Next == r_.Next && (r_.Result == r_.Result && true))))) T hS kr kr kr kr kr kr kr kr ?_)
 intro a hS
 refine ePe T hS [5,12,13] [(4,B (r_.State == am && (r_.Kind == ap && (r_.Next == r_.Next && (r_.Result == r_.Result && true)))))] fun a hS=>?_
 refine aZ ?_
 exact gF T hS hO (fun c h=>bS kr h) (fun c h=>bT (l:=[(i1,901),(i2,902)]) h) (bN [(i1,901),(i2,902)]) rfl (r:=[.bool (r_.State == am && (r_.Kind == ap && (r_.Next == r_.Next && (r_.Result == r_.Result && true))))]) kr (fun X' hM hC=>⟨(r_.State == am && (r_.Kind == ap && (r_.Next == r_.Next && (r_.Result == r_.Result && true)))),hm,rfl,((hS.cell (id:=901) (t:=3) (cs:=[I am]) kr).out (f:=(bN [(i1,901),(i2,902)])) hC kr kr (hP.at 0 rfl)),((hS.cell (id:=902) (t:=3) (cs:=[I ap]) kr).out (f:=(bN [(i1,901),(i2,902)])) hC kr kr (hP.at 1 rfl))⟩)
theorem C110 (v:∀ (r_:a9) (am:Int) (ap:Int),VC110 r_ am ap (fun r=>r=gl r_ am ap)):S110:=by
 intro w X r_ am ap   b1 i1 b2 i2 ff gE hA
 refine (W110 w X r_ am ap   b1 i1 b2 i2 _ (v r_ am ap) ff gE hA).mono ?_
 rintro _ _ _ _ ⟨r,rfl,h⟩
 exact h
theorem W111_110 (Fj:S110) (w0) (X0) (s_:List a9) (am:Int) (ap:Int) (a1) (c1) (b1) (i1) (b2) (i2) (Q:Int->Prop) (hm:VC111_110 s_ am ap Q) (h1:RS ay w0 X0 a1 s_ c1) (ff:Cell w0 X0 b1 i1 3 [.int .i64 am]) (gE:Cell w0 X0 b2 i2 3 [.int .i64 ap]) (hA:dH [i1,i2]) :
  Ret Tryz.prog 111 #[.slice a1 s_.length c1,.func (.func 110) #[] #[.pointer (some ⟨b1,0,none⟩),.pointer (some ⟨b2,0,none⟩)]] (pR [i1,i2]) w0 X0 (fun w X' v=>∃ r,Q r/\v=.int .i64 r/\Cell w X' b1 i1 3 [.int .i64 am]/\Cell w X' b2 i2 3 [.int .i64 ap]):=by
 unfold VC111_110 at hm
 replace hm:=hm (h1.sm kr)
 refine fB Tryz.func111 rfl (dx [(i1,901),(i2,902)]) (fun id=>(bif Nat.beq id 901 then b1 else (bif Nat.beq id 902 then b2 else 0))) (args:=[Sl a1 s_ c1,.f (.func 110) [] [.p 901 0,.p 902 0]]) (bxs:=[(901,(3,[I am])),(902,(3,[I ap]))]) kr rfl (bm.cons kr (ff.map (bK 0 hA.1 rfl)) (bm.cons kr (gE.map (bK 1 hA.1 rfl)) bm.nil)) (fm (fun q hq=>(hA.2 q.1 (List.mem_map.2 ⟨q,hq,rfl⟩)).1)) ?_
 intro a hS hO hM
 have hP:Pin [(901,b1),(902,b2)] (fun id=>(bif Nat.beq id 901 then b1 else (bif Nat.beq id 902 then b2 else 0))):=by intro q hq; simp at hq; rcases hq with rfl | rfl <;> rfl
 generalize (fun id=>(bif Nat.beq id 901 then b1 else (bif Nat.beq id 902 then b2 else 0)))=Z at hS hP
 clear ff gE
 replace h1:=h1.m0 hM
 refine rPe T hS [] [] fun a hS=>?_
 refine b5 (fun a w=>∃ Z X,VC111_110_J1 Q/\St Tryz.f111.ntmps ⟨[],[(901,(3,[I am])),(902,(3,[I ap]))]⟩ Z a w X/\fU (dx [(i1,901),(i2,902)]) w0 X0 w X/\Pin [(901,b1),(902,b2)] Z) ?_ ?_
 ·refine rPe T hS [] [(7,I (lN s_)),(8,I 0)] fun a hS=>?_
  refine aN ?_
  obtain ⟨I1,μ1,cy,hm⟩:=hm
  refine cw (σ:=Int) (fun s a w=>∃ Z X,I1 s/\St Tryz.f111.ntmps ⟨[(0,Sl a1 s_ c1),(1,.f (.func 110) [] [.p 901 0,.p 902 0]),(7,I (lN s_)),(8,I s)],[(901,(3,[I am])),(902,(3,[I ap]))]⟩ Z a w X/\fU (dx [(i1,901),(i2,902)]) w0 X0 w X/\Pin [(901,b1),(902,b2)] Z/\RS ay w X a1 s_ c1) (fun s=>μ1 s) (0) ?_ ?_
  ·exact ⟨Z,_,cy,hS.sl _,hO,hP,h1⟩
  rintro br a vS ⟨Z,tG,hI,hS,hO,hP,h101⟩
  replace hm:=hm br hI
  clear hI cy
  refine rPe T hS [] [(9,B (decide (br < (lN s_))))] fun a hS=>?_
  refine bd ?_
  refine aF hS (b:=decide (br < (lN s_))) kr (fun hb=>?_) fun hb=>?_
  ·replace hm:=hm.1 hb
   refine aL (bd ?_)
   refine aN ?_
   refine rPe T hS [9] [(5,I br)] fun a hS=>?_
   refine bn ?_
   refine oPe T hS 3 [] [(11,.f (.func 110) [] [.p 901 0,.p 902 0]),(12,Sl a1 s_ c1),(13,I br)] fun a hS=>?_
   obtain ⟨hq,hm⟩:=hm
   refine op1 (index (e:=107) (k:=.i64) T hS kr kr kr kr h101 kr kr hq.1 hq.2 ?_)
   intro tJ a h104 hS
   refine op1 (eB T hS kr kr kr h104 kr kr ?_)
   intro v105 a hv hS
   subst hv
   refine op1 (jI (fi:=[]) (cp:=[.p 901 0,.p 902 0]) hS kr kr hb110 kr kr (Fj _ _ (gi s_ br) am ap (Z 901) 901 (Z 902) 902 (hS.cell (id:=901) (t:=3) (cs:=[I am]) kr) (hS.cell (id:=902) (t:=3) (cs:=[I ap]) kr) ⟨by decide,by decide⟩) ?_)
   intro v106 a pu oG hE hp hS
   replace hO:=hO.m2 hE
   replace h101:=h101.m1 hE
   replace h104:=h104.m1 hE
   obtain ⟨hp,uK,uJ⟩:=hp
   obtain ⟨iI,hr⟩:∃ r,gl (gi s_ br) am ap=r:=⟨_,rfl⟩
   replace hm:=hm iI hr
   rw [hr] at hp
   clear hr
   subst hp
   replace hS:=hS.cx (id:=901) (t:=3) (cs:=[I am]) kr uK
   replace hS:=hS.cx (id:=902) (t:=3) (cs:=[I ap]) kr uJ
   clear uK uJ
   refine g8 ?_
   refine aF hS (b:=iI) kr (fun hb=>?_) fun hb=>?_
   ·replace hm:=hm.1 hb
    refine rPe T hS [0,1,5,7,8,16] [(4,I br)] fun a hS=>?_
    refine aZ ?_
    exact gF T hS hO (fun c h=>bS kr h) (fun c h=>bT (l:=[(i1,901),(i2,902)]) h) (bN [(i1,901),(i2,902)]) rfl (r:=[.int .i64 br]) kr (fun X' hM hC=>⟨br,hm,rfl,((hS.cell (id:=901) (t:=3) (cs:=[I am]) kr).out (f:=(bN [(i1,901),(i2,902)])) hC kr kr (hP.at 0 rfl)),((hS.cell (id:=902) (t:=3) (cs:=[I ap]) kr).out (f:=(bN [(i1,901),(i2,902)])) hC kr kr (hP.at 1 rfl))⟩)
   replace hm:=hm.2 hb
   refine aL ?_
   refine region (ePe T hS [5,16] [(8,I (wR (br+1)))] fun a hS=>?_)
   exact ⟨wR (br+1),⟨Z,_,hm.1,hS.sl _,hO,hP,h101⟩,hm.2⟩
  replace hm:=hm.2 hb
  refine cl (by rfl) ?_
  exact ⟨Z,_,hm,hS.sl _,hO,hP⟩
 rintro a o5 ⟨Z,w6,hm,hS,hO,hP⟩
 unfold VC111_110_J1 at hm
 refine rPe T hS [] [(4,I (-1))] fun a hS=>?_
 refine aZ ?_
 exact gF T hS hO (fun c h=>bS kr h) (fun c h=>bT (l:=[(i1,901),(i2,902)]) h) (bN [(i1,901),(i2,902)]) rfl (r:=[.int .i64 (-1)]) kr (fun X' hM hC=>⟨(-1),hm,rfl,((hS.cell (id:=901) (t:=3) (cs:=[I am]) kr).out (f:=(bN [(i1,901),(i2,902)])) hC kr kr (hP.at 0 rfl)),((hS.cell (id:=902) (t:=3) (cs:=[I ap]) kr).out (f:=(bN [(i1,901),(i2,902)])) hC kr kr (hP.at 1 rfl))⟩)
theorem C111_110 (Fj:S110) (v:∀ (s_:List a9) (am:Int) (ap:Int),VC111_110 s_ am ap (fun r=>r=bg s_ am ap)):S111_110:=by
 intro w X s_ am ap a1 c1  b1 i1 b2 i2 h1 ff gE hA
 refine (W111_110 Fj w X s_ am ap a1 c1  b1 i1 b2 i2 _ (v s_ am ap) h1 ff gE hA).mono ?_
 rintro _ _ _ _ ⟨r,rfl,h⟩
 exact h
theorem W103 (ql:S111_110) (w0) (X0) (o_:al) (state:Int) (kind:Int) (a1) (c1) (Q:Int × Int × Bool->Prop) (hm:VC103 o_ state kind Q) (h1:RS ay w0 X0 a1 o_.Rows c1) :
  Ret Tryz.prog 103 #[.agg #[.int .i64 o_.aq,.int .i64 o_.ax,.int .i64 o_.aE,.slice a1 o_.Rows.length c1],.int .i64 state,.int .i64 kind] aJ w0 X0 (fun w X' v=>∃ r,Q r/\v=.tuple #[.int .i64 r.1,.int .i64 r.2.1,.bool r.2.2]):=by
 unfold VC103 at hm
 replace hm:=hm (h1.sm kr)
 refine enter Tryz.func103 rfl (vals:=[.agg #[.int .i64 o_.aq,.int .i64 o_.ax,.int .i64 o_.aE,.slice a1 o_.Rows.length c1],.int .i64 state,.int .i64 kind]) kr ?_
 intro Z a hS hO hM
 replace h1:=h1.m0 hM
 refine rM T hS ⟨[(3,Pt 4 0),(4,Pt 5 0),(5,Pt 6 0)],[(4,(48,(cO o_ a1 c1))),(5,(3,[I state])),(6,(3,[I kind]))]⟩ fun Z a vR B1 hS hE hr=>?_
 replace hO:=hO.m2 hE
 replace h1:=h1.m1 hE
 clear hE hr
 refine rPe T hS [4,5] [(9,.f (.func 110) [] [.p 5 0,.p 6 0])] fun a hS=>?_
 refine bn ?_
 refine oPe T hS 3 [9] [(13,Sl a1 o_.Rows c1),(14,.f (.func 110) [] [.p 5 0,.p 6 0])] fun a hS=>?_
 refine op1 (lv hS kr kr hb111 kr (ql _ _ o_.Rows state kind a1 c1 (Z 5) 5 (Z 6) 6 h1 (hS.cell (id:=5) (t:=3) (cs:=[I state]) kr) (hS.cell (id:=6) (t:=3) (cs:=[I kind]) kr) ⟨by decide,by decide⟩) ?_)
 intro v101 a fh fo hE hp hS
 replace hO:=hO.m2 hE
 replace h1:=h1.m1 hE
 obtain ⟨hp,uM,uL⟩:=hp
 obtain ⟨av,hr⟩:∃ r,bg o_.Rows state kind=r:=⟨_,rfl⟩
 replace hm:=hm av hr
 rw [hr] at hp
 clear hr
 subst hp
 replace hS:=hS.cx (id:=5) (t:=3) (cs:=[I state]) kr uM
 replace hS:=hS.cx (id:=6) (t:=3) (cs:=[I kind]) kr uL
 clear uM uL
 refine eP T hS ⟨[(3,Pt 4 0),(10,I av)],[(4,(48,(cO o_ a1 c1)))]⟩ fun a hS=>?_
 refine bd ?_
 refine rPe T hS [] [(17,B (decide (av < 0)))] fun a hS=>?_
 refine aF hS (b:=decide (av < 0)) kr (fun hb=>?_) fun hb=>?_
 ·replace hm:=hm.1 hb
  refine rP T hS ⟨[(6,I 0),(7,I 0),(8,B false)],[]⟩ fun a hS=>?_
  refine aZ ?_
  exact fin T hS hO (fun c=>c) rfl (r:=[.int .i64 0,.int .i64 0,.bool false]) kr (fun X' hM hC=>⟨(0,0,false),hm,rfl⟩)
 replace hm:=hm.2 hb
 refine aL ?_
 refine dq [4] mixed hS ?_
 intro pu oG hS hE hD hH
 replace hO:=hO.m2 hE
 replace h1:=h1.m1 hE
 refine tke T [0,2,6,8,1,7] [4] hS hH #[true,true,true,false,false,false,true,true,true,false,false,false,false,false,false] 9 [3,10] [(19,Sl a1 o_.Rows c1),(20,I av),(25,Sl a1 o_.Rows c1),(26,I av)] fun a hS=>?_
 obtain ⟨hq,hm⟩:=hm
 refine c6 (e:=107) (k:=.i64) T 3 hS kr kr kr (by rfl) kr hH kr kr h1 kr kr hq.1 hq.2 ?_
 intro w8 a h110 hS
 have kM:=h110.here
 refine dh (off:=2) (fsz:=1) (ft:=3) (TF:=tI) (y:=(gi o_.Rows av).Next) 4 T hS kr kr kr (by rfl) kr hH kr h110 kr kr kr (fun cs h=>qT h) ?_
 intro B7 a h112 fv hS
 have yd:=kM
 rw [← fv] at yd
 clear fv
 refine dF T 5 hS kr kr kr (by rfl) kr hH kr h112 yd rfl kr ?_
 intro v113 a hv hS
 cases hv
 refine tke T [12] [4] hS hH #[true,true,true,true,true,true,true,true,true,false,false,false,true,false,false] 5 [19,20,21,22,23] [(6,I ((gi o_.Rows av).Next))] fun a hS=>?_
 obtain ⟨hq,hm⟩:=hm
 refine c6 (e:=107) (k:=.i64) T 9 hS kr kr kr (by rfl) kr hH kr kr h1 kr kr hq.1 hq.2 ?_
 intro DD a h115 hS
 have qv:=h115.here
 refine dh (off:=3) (fsz:=1) (ft:=3) (TF:=tI) (y:=(gi o_.Rows av).Result) 10 T hS kr kr kr (by rfl) kr hH kr h115 kr kr kr (fun cs h=>qS h) ?_
 intro Ge a h117 fv hS
 have nJ:=qv
 rw [← fv] at nJ
 clear fv
 refine dF T 11 hS kr kr kr (by rfl) kr hH kr h117 nJ rfl kr ?_
 intro v118 a hv hS
 cases hv
 refine tke T [13,14] [4] hS hH (tts 15) 0 [25,26,27,28,29] [(7,I ((gi o_.Rows av).Result)),(8,B true)] fun a hS=>?_
 refine aV kr ?_
 replace hS:=hS.sl ⟨[(6,I ((gi o_.Rows av).Next)),(7,I ((gi o_.Rows av).Result)),(8,B true)],[]⟩
 refine aZ ?_
 exact fin T hS hO (fun c=>c) rfl (r:=[.int .i64 ((gi o_.Rows av).Next),.int .i64 ((gi o_.Rows av).Result),.bool true]) kr (fun X' hM hC=>⟨((gi o_.Rows av).Next,(gi o_.Rows av).Result,true),hm,rfl⟩)
theorem C103 (ql:S111_110) (v:∀ (o_:al) (state:Int) (kind:Int),VC103 o_ state kind (fun r=>r=cj o_ state kind)):S103:=by
 intro w X o_ state kind a1 c1   h1
 refine (W103 ql w X o_ state kind a1 c1   _ (v o_ state kind) h1).mono ?_
 rintro _ _ _ _ ⟨r,rfl,h⟩
 exact h
theorem W109 (qm:S103) (w0) (X0) (t_:gU) (state:Int) (kind:Int) (a1) (c1) (Q:Int × Int × Bool->Prop) (hm:VC109 t_ state kind Q) (h1:RS ay w0 X0 a1 t_.o.Rows c1) :
  Ret Tryz.prog 109 #[.agg #[.int .i64 t_.o.aq,.int .i64 t_.o.ax,.int .i64 t_.o.aE,.slice a1 t_.o.Rows.length c1],.int .i64 state,.int .i64 kind] aJ w0 X0 (fun w X' v=>∃ r,Q r/\v=.tuple #[.int .i64 r.1,.int .i64 r.2.1,.bool r.2.2]):=by
 unfold VC109 at hm
 replace hm:=hm (h1.sm kr)
 refine enter Tryz.func109 rfl (vals:=[.agg #[.int .i64 t_.o.aq,.int .i64 t_.o.ax,.int .i64 t_.o.aE,.slice a1 t_.o.Rows.length c1],.int .i64 state,.int .i64 kind]) kr ?_
 intro Z a hS hO hM
 replace h1:=h1.m0 hM
 refine rM T hS ⟨[(1,I state),(2,I kind),(3,Pt 4 0)],[(4,(174,(cO t_.o a1 c1)))]⟩ fun Z a mH lB hS hE hr=>?_
 replace hO:=hO.m2 hE
 replace h1:=h1.m1 hE
 clear hE hr
 refine bn ?_
 refine oP T hS 4 ⟨[(10,V (.agg #[.int .i64 t_.o.aq,.int .i64 t_.o.ax,.int .i64 t_.o.aE,.slice a1 t_.o.Rows.length c1])),(11,I state),(12,I kind)],[]⟩ fun a hS=>?_
 refine op1 (call hS kr kr hb103 kr (fun _ _=>rfl) (qm _ _ t_.o state kind a1 c1 h1) ?_)
 intro v101 a fh fo hE hp hS
 replace hO:=hO.m2 hE
 replace h1:=h1.m1 hE
 obtain ⟨av,hr⟩:∃ r,cj t_.o state kind=r:=⟨_,rfl⟩
 replace hm:=hm av hr
 rw [hr] at hp
 clear hr
 subst hp
 refine ePe T hS [10,11,12,13] [(6,I av.1),(7,I av.2.1),(8,B av.2.2)] fun a hS=>?_
 refine aZ ?_
 exact fin T hS hO (fun c=>c) rfl (r:=[.int .i64 av.1,.int .i64 av.2.1,.bool av.2.2]) kr (fun X' hM hC=>⟨(av.1,av.2.1,av.2.2),hm,rfl⟩)
theorem C109 (qm:S103) (v:∀ (t_:gU) (state:Int) (kind:Int),VC109 t_ state kind (fun r=>r=eI t_ state kind)):S109:=by
 intro w X t_ state kind a1 c1   h1
 refine (W109 qm w X t_ state kind a1 c1   _ (v t_ state kind) h1).mono ?_
 rintro _ _ _ _ ⟨r,rfl,h⟩
 exact h
theorem W98 (Fk:S109) (w0) (X0) (o_:al) (state:Int) (kind:Int) (result:Int) (a1) (c1) (Q:Int × Int->Prop) (hm:VC98 o_ state kind result Q) (h1:RS ay w0 X0 a1 o_.Rows c1) :
  Ret Tryz.prog 98 #[.agg #[.int .i64 o_.aq,.int .i64 o_.ax,.int .i64 o_.aE,.slice a1 o_.Rows.length c1],.int .i64 state,.int .i64 kind,.int .i64 result] aJ w0 X0 (fun w X' v=>∃ r,Q r/\v=.tuple #[.int .i64 r.1,.int .i64 r.2]):=by
 unfold VC98 at hm
 replace hm:=hm (h1.sm kr)
 refine enter Tryz.func98 rfl (vals:=[.agg #[.int .i64 o_.aq,.int .i64 o_.ax,.int .i64 o_.aE,.slice a1 o_.Rows.length c1],.int .i64 state,.int .i64 kind,.int .i64 result]) kr ?_
 intro Z a hS hO hM
 replace h1:=h1.m0 hM
 refine rM T hS ⟨[(1,I state),(2,I kind),(3,I result),(4,Pt 5 0)],[(5,(48,(cO o_ a1 c1)))]⟩ fun Z a mH lB hS hE hr=>?_
 replace hO:=hO.m2 hE
 replace h1:=h1.m1 hE
 clear hE hr
 refine bd ?_
 refine rPe T hS [] [(20,B ((decide (state < 0)) || (decide (state≥o_.aq))))] (sp:=[15]) fun a hS=>?_
 refine aF hS (b:=((decide (state < 0)) || (decide (state≥o_.aq)))) kr (fun hb=>?_) fun hb=>?_
 ·replace hm:=hm.1 hb
  refine rP T hS ⟨[(8,I 0),(9,I 30)],[]⟩ fun a hS=>?_
  refine aZ ?_
  exact fin T hS hO (fun c=>c) rfl (r:=[.int .i64 0,.int .i64 30]) kr (fun X' hM hC=>⟨(0,30),hm,rfl⟩)
 replace hm:=hm.2 hb
 refine aL ?_
 refine rP T hS ⟨[(1,I state),(2,I kind),(3,I result),(10,.f (.func 109) [.v (.agg #[.int .i64 o_.aq,.int .i64 o_.ax,.int .i64 o_.aE,.slice a1 o_.Rows.length c1])] [])],[]⟩ fun a hS=>?_
 refine bn ?_
 refine oPe T hS 3 [1,2,10] [(25,.f (.func 109) [.v (.agg #[.int .i64 o_.aq,.int .i64 o_.ax,.int .i64 o_.aE,.slice a1 o_.Rows.length c1])] []),(26,I state),(27,I kind)] fun a hS=>?_
 refine op1 (Ex (fi:=[.v (.agg #[.int .i64 o_.aq,.int .i64 o_.ax,.int .i64 o_.aE,.slice a1 o_.Rows.length c1])]) (cp:=[]) hS kr kr hb109 kr kr (fun _ _=>rfl) (Fk _ _ (⟨o_⟩:gU) state kind a1 c1 h1) ?_)
 intro v101 a fh fo hE hp hS
 replace hO:=hO.m2 hE
 replace h1:=h1.m1 hE
 obtain ⟨av,hr⟩:∃ r,eI (⟨o_⟩:gU) state kind=r:=⟨_,rfl⟩
 replace hm:=hm av hr
 rw [hr] at hp
 clear hr
 subst hp
 refine ePe T hS [25,26,27,28] [(8,I av.1),(11,I av.2.1),(12,B av.2.2)] fun a hS=>?_
 refine bd ?_
 refine rPe T hS [3,11,12] [(38,B ((!av.2.2) || (av.2.1 != result)))] (sp:=[34]) fun a hS=>?_
 refine aF hS (b:=((!av.2.2) || (av.2.1 != result))) kr (fun hb=>?_) fun hb=>?_
 ·replace hm:=hm.1 hb
  refine rPe T hS [38] [(8,I 0),(9,I 40)] fun a hS=>?_
  refine aZ ?_
  exact fin T hS hO (fun c=>c) rfl (r:=[.int .i64 0,.int .i64 40]) kr (fun X' hM hC=>⟨(0,40),hm,rfl⟩)
 replace hm:=hm.2 hb
 refine aL ?_
 refine rPe T hS [38] [(9,I 0)] fun a hS=>?_
 refine aZ ?_
 exact fin T hS hO (fun c=>c) rfl (r:=[.int .i64 av.1,.int .i64 0]) kr (fun X' hM hC=>⟨(av.1,0),hm,rfl⟩)
theorem C98 (Fk:S109) (v:∀ (o_:al) (state:Int) (kind:Int) (result:Int),VC98 o_ state kind result (fun r=>r=iu o_ state kind result)):S98:=by
 intro w X o_ state kind result a1 c1   h1
 refine (W98 Fk w X o_ state kind result a1 c1   _ (v o_ state kind result) h1).mono ?_
 rintro _ _ _ _ ⟨r,rfl,h⟩
 exact h
theorem W97 (JJ:S98) (w0) (X0) (p_:aa) (am:List ab) (ap:List (Int × Int)) (aM:al) (bz:Int) (a1) (c1) (r2) (m2) (a3) (c3) (b1) (i1) (b2) (i2) (b3) (i3) (b4) (i4) (Q:Int × Int × (List (Int × Int)) × Int->Prop) (hm:VC97 p_ am ap aM bz Q) (h1:RS ao w0 X0 a1 am c1) (h2:OM kI tI false w0 X0 m2 r2 ap) (h3:RS ay w0 X0 a3 aM.Rows c3) (ff:Cell w0 X0 b1 i1 42 [.slice a1 am.length c1]) (gE:Cell w0 X0 b2 i2 113 [.map (some r2)]) (lc:Cell w0 X0 b3 i3 48 [.int .i64 aM.aq,.int .i64 aM.ax,.int .i64 aM.aE,.slice a3 aM.Rows.length c3]) (ti:Cell w0 X0 b4 i4 3 [.int .i64 bz]) (hA:dH [i1,i2,i3,i4,m2]) :
  Ret Tryz.prog 97 #[.agg #[.int .i64 p_.Oper,.int .i64 p_.Result],.pointer (some ⟨b1,0,none⟩),.pointer (some ⟨b2,0,none⟩),.pointer (some ⟨b3,0,none⟩),.pointer (some ⟨b4,0,none⟩)] (pR [i1,i2,i3,i4,m2]) w0 X0 (fun w X' v=>∃ r,Q r/\v=.tuple #[.int .i64 r.1,.int .i64 r.2.1]/\Cell w X' b1 i1 42 [.slice a1 am.length c1]/\Cell w X' b2 i2 113 [.map (some r2)]/\OM kI tI false w X' m2 r2 r.2.2.1/\Cell w X' b3 i3 48 [.int .i64 aM.aq,.int .i64 aM.ax,.int .i64 aM.aE,.slice a3 aM.Rows.length c3]/\Cell w X' b4 i4 3 [.int .i64 r.2.2.2]):=by
 unfold VC97 at hm
 replace hm:=hm (h1.sm kr)
 replace hm:=hm (h3.sm kr)
 refine fB Tryz.func97 rfl (dx (zAa2 i1 i2 i3 i4 m2)) (fun id=>(bif Nat.beq id 901 then b1 else (bif Nat.beq id 902 then b2 else (bif Nat.beq id 903 then b3 else (bif Nat.beq id 904 then b4 else 0))))) (args:=[V (.agg #[.int .i64 p_.Oper,.int .i64 p_.Result]),Pt 901 0,Pt 902 0,Pt 903 0,Pt 904 0]) (bxs:=[(901,(42,[Sl a1 am c1])),(902,(113,[V (.map (some r2))])),(903,(48,(cO aM a3 c3))),(904,(3,[I bz]))]) kr rfl (bm.cons kr (ff.map (bK 0 hA.1 rfl)) (bm.cons kr (gE.map (bK 1 hA.1 rfl)) (bm.cons kr (lc.map (bK 2 hA.1 rfl)) (bm.cons kr (ti.map (bK 3 hA.1 rfl)) bm.nil)))) (fm (fun q hq=>(hA.2 q.1 (List.mem_map.2 ⟨q,hq,rfl⟩)).1)) ?_
 intro a hS hO hM
 have hP:Pin [(901,b1),(902,b2),(903,b3),(904,b4)] (fun id=>(bif Nat.beq id 901 then b1 else (bif Nat.beq id 902 then b2 else (bif Nat.beq id 903 then b3 else (bif Nat.beq id 904 then b4 else 0))))):=by intro q hq; simp at hq; rcases hq with rfl | rfl | rfl | rfl <;> rfl
 generalize (fun id=>(bif Nat.beq id 901 then b1 else (bif Nat.beq id 902 then b2 else (bif Nat.beq id 903 then b3 else (bif Nat.beq id 904 then b4 else 0)))))=Z at hS hP
 clear ff gE lc ti
 replace h1:=h1.m0 hM
 replace h2:=h2.map (f:=dx (zAa2 i1 i2 i3 i4 m2)) (bK 4 hA.1 rfl) hM
 replace h3:=h3.m0 hM
 refine rM T hS ⟨[(1,Pt 901 0),(2,Pt 902 0),(3,Pt 903 0),(4,Pt 904 0),(5,Pt 6 0)],[(6,(56,(cK p_))),(901,(42,[Sl a1 am c1])),(902,(113,[V (.map (some r2))])),(903,(48,(cO aM a3 c3))),(904,(3,[I bz]))]⟩ fun Z a tR tE hS hE hr=>?_
 replace hO:=hO.m2 hE
 replace h1:=h1.m1 hE
 replace h2:=h2.m2 hE
 replace h3:=h3.m1 hE
 replace hP:=hP.mv hr kr
 clear hE hr
 refine bd ?_
 refine aN ?_
 refine rPe T hS [] [(11,B ((decide (p_.Oper < 0)) || (decide (p_.Oper≥(lN am)))))] (sp:=[15]) fun a hS=>?_
 refine aF hS (b:=((decide (p_.Oper < 0)) || (decide (p_.Oper≥(lN am))))) kr (fun hb=>?_) fun hb=>?_
 ·replace hm:=hm.1 hb
  refine rP T hS ⟨[(6,I 0),(7,I 2)],[(901,(42,[Sl a1 am c1])),(902,(113,[V (.map (some r2))])),(903,(48,(cO aM a3 c3))),(904,(3,[I bz]))]⟩ fun a hS=>?_
  refine aZ ?_
  exact gF T hS hO (fun c h=>bS kr h) (fun c h=>bT (l:=(zAa2 i1 i2 i3 i4 m2)) h) (bN (zAa2 i1 i2 i3 i4 m2)) rfl (r:=[.int .i64 0,.int .i64 2]) kr (fun X' hM hC=>⟨(0,2,ap,bz),hm,rfl,((hS.cell (id:=901) (t:=42) (cs:=[Sl a1 am c1]) kr).out (f:=(bN (zAa2 i1 i2 i3 i4 m2))) hC kr kr (hP.at 0 rfl)),((hS.cell (id:=902) (t:=113) (cs:=[V (.map (some r2))]) kr).out (f:=(bN (zAa2 i1 i2 i3 i4 m2))) hC kr kr (hP.at 1 rfl)),(h2.out (f:=(bN (zAa2 i1 i2 i3 i4 m2))) hM hC kr kr),((hS.cell (id:=903) (t:=48) (cs:=(cO aM a3 c3)) kr).out (f:=(bN (zAa2 i1 i2 i3 i4 m2))) hC kr kr (hP.at 2 rfl)),((hS.cell (id:=904) (t:=3) (cs:=[I bz]) kr).out (f:=(bN (zAa2 i1 i2 i3 i4 m2))) hC kr kr (hP.at 3 rfl))⟩)
 replace hm:=hm.2 hb
 refine bn ?_
 refine oPe T hS 3 [11] [(23,V (.map (some r2))),(25,I p_.Oper)] fun a hS=>?_
 refine op1 (jB kI tI false (zv:=.int .i64 0) (z:=0) p_.Oper hS kr kr kr kr Tryz.underlying113 Tryz.underlying3 kr rfl h2 ?_)
 intro v101 a hv hS
 replace hv:tI.R _ _ [v101] _:=hv
 cases hv
 refine ePe T hS [23,25,26] [(22,B (decide (((aC ap p_.Oper).getD 0) > 0)))] fun a hS=>?_
 refine aF hS (b:=decide (((aC ap p_.Oper).getD 0) > 0)) kr (fun hb=>?_) fun hb=>?_
 ·replace hm:=hm.1 hb
  refine rP T hS ⟨[(6,I 0),(7,I 21)],[(901,(42,[Sl a1 am c1])),(902,(113,[V (.map (some r2))])),(903,(48,(cO aM a3 c3))),(904,(3,[I bz]))]⟩ fun a hS=>?_
  refine aZ ?_
  exact gF T hS hO (fun c h=>bS kr h) (fun c h=>bT (l:=(zAa2 i1 i2 i3 i4 m2)) h) (bN (zAa2 i1 i2 i3 i4 m2)) rfl (r:=[.int .i64 0,.int .i64 21]) kr (fun X' hM hC=>⟨(0,21,ap,bz),hm,rfl,((hS.cell (id:=901) (t:=42) (cs:=[Sl a1 am c1]) kr).out (f:=(bN (zAa2 i1 i2 i3 i4 m2))) hC kr kr (hP.at 0 rfl)),((hS.cell (id:=902) (t:=113) (cs:=[V (.map (some r2))]) kr).out (f:=(bN (zAa2 i1 i2 i3 i4 m2))) hC kr kr (hP.at 1 rfl)),(h2.out (f:=(bN (zAa2 i1 i2 i3 i4 m2))) hM hC kr kr),((hS.cell (id:=903) (t:=48) (cs:=(cO aM a3 c3)) kr).out (f:=(bN (zAa2 i1 i2 i3 i4 m2))) hC kr kr (hP.at 2 rfl)),((hS.cell (id:=904) (t:=3) (cs:=[I bz]) kr).out (f:=(bN (zAa2 i1 i2 i3 i4 m2))) hC kr kr (hP.at 3 rfl))⟩)
 replace hm:=hm.2 hb
 refine aL ?_
 refine bn ?_
 refine oPe T hS 3 [2,22] [(28,V (.map (some r2))),(30,I p_.Oper)] fun a hS=>?_
 refine op1 (jB kI tI false (zv:=.int .i64 0) (z:=0) p_.Oper hS kr kr kr kr Tryz.underlying113 Tryz.underlying3 kr rfl h2 ?_)
 intro v102 a hv hS
 replace hv:tI.R _ _ [v102] _:=hv
 cases hv
 refine oPe T hS 1 [31] [(32,I (wR (((aC ap p_.Oper).getD 0)+1)))] fun a hS=>?_
 refine op1 (sZ kI tI false (v:=I (wR (((aC ap p_.Oper).getD 0)+1))) (u:=wR (((aC ap p_.Oper).getD 0)+1)) p_.Oper hS kr kr kr kr Tryz.underlying113 Tryz.underlying3 kr h2 rfl ?_)
 intro a Ju hE h104 hS
 clear h2
 replace hO:=hO.m2 hE
 replace h1:=h1.m1 hE
 replace h3:=h3.m1 hE
 refine g8 ?_
 refine bn ?_
 refine oPe T hS 3 [1] [(33,Sl a1 am c1),(35,I p_.Oper)] fun a hS=>?_
 obtain ⟨hq,hm⟩:=hm
 refine op1 (index (e:=102) (k:=.i64) T hS kr kr kr kr h1 kr kr hq.1 hq.2 ?_)
 intro w9 a h106 hS
 refine op1 (eB T hS kr kr kr h106 kr kr ?_)
 intro v107 a hv hS
 subst hv
 refine eM T hS ⟨[(3,Pt 903 0),(4,Pt 904 0),(5,Pt 6 0),(8,Pt 9 0)],[(6,(56,(cK p_))),(9,(102,(cP (gi am p_.Oper)))),(901,(42,[Sl a1 am c1])),(902,(113,[V (.map (some r2))])),(903,(48,(cO aM a3 c3))),(904,(3,[I bz]))]⟩ fun Z a Ae Dz hS hE hr=>?_
 replace hO:=hO.m2 hE
 replace h1:=h1.m1 hE
 replace h3:=h3.m1 hE
 replace h104:=h104.m2 hE
 replace hP:=hP.mv hr kr
 clear hE hr
 refine bn ?_
 refine oPe T hS 6 [3] [(39,V (.agg #[.int .i64 aM.aq,.int .i64 aM.ax,.int .i64 aM.aE,.slice a3 aM.Rows.length c3])),(40,I bz),(42,I ((gi am p_.Oper).Kind)),(44,I p_.Result)] fun a hS=>?_
 refine op1 (call hS kr kr hb98 kr (fun _ _=>rfl) (JJ _ _ aM bz ((gi am p_.Oper).Kind) p_.Result a3 c3 h3) ?_)
 intro v108 a pm rc hE hp hS
 replace hO:=hO.m2 hE
 replace h1:=h1.m1 hE
 replace h3:=h3.m1 hE
 replace h104:=h104.m2 hE
 obtain ⟨bA,hr⟩:∃ r,iu aM bz ((gi am p_.Oper).Kind) p_.Result=r:=⟨_,rfl⟩
 replace hm:=hm bA hr
 rw [hr] at hp
 clear hr
 subst hp
 refine ePe T hS [39,40,42,44,45] [(9,I bA.1),(10,I bA.2)] fun a hS=>?_
 refine b5 (fun a w=>∃ (Z:Nat->Nat) (X:Nat->Nat) (cM:Int),VC97_J1 p_ ap bz Q bA cM/\St Tryz.f97.ntmps ⟨[(4,Pt 904 0),(9,I bA.1),(10,I cM)],[(901,(42,[Sl a1 am c1])),(902,(113,[V (.map (some r2))])),(903,(48,(cO aM a3 c3))),(904,(3,[I bz]))]⟩ Z a w X/\fU (dx (zAa2 i1 i2 i3 i4 m2)) w0 X0 w X/\Pin [(901,b1),(902,b2),(903,b3),(904,b4)] Z/\RS ao w X a1 am c1/\OM kI tI false w X 2002 r2 (de ap p_.Oper (wR (((aC ap p_.Oper).getD 0)+1)))/\RS ay w X a3 aM.Rows c3) ?_ ?_
 ·refine rP T hS ⟨[(4,Pt 904 0),(9,I bA.1),(10,I bA.2),(61,B (((bA.2 == 0) && (((gi am p_.Oper).End) != (-1))) && (((gi am p_.Oper).Result) != p_.Result)))],[(901,(42,[Sl a1 am c1])),(902,(113,[V (.map (some r2))])),(903,(48,(cO aM a3 c3))),(904,(3,[I bz]))]⟩ (sp:=[50,55]) fun a hS=>?_
  refine aF hS (b:=(((bA.2 == 0) && (((gi am p_.Oper).End) != (-1))) && (((gi am p_.Oper).Result) != p_.Result))) kr (fun hb=>?_) fun hb=>?_
  ·replace hm:=hm.1 hb
   refine region (ePe T hS [61] [(10,I 40)] fun a hS=>?_)
   exact ⟨Z,_,40,hm,hS.sl _,hO,hP,h1,h104,h3⟩
  replace hm:=hm.2 hb
  refine aL ?_
  exact ⟨Z,_,bA.2,hm,hS.sl _,hO,hP,h1,h104,h3⟩
 rintro a vR ⟨Z,DA,cM,hm,hS,hO,hP,h113,h114,h115⟩
 unfold VC97_J1 at hm
 refine bd ?_
 refine rPe T hS [] [(63,B (cM != 0))] fun a hS=>?_
 refine aF hS (b:=(cM != 0)) kr (fun hb=>?_) fun hb=>?_
 ·replace hm:=hm.1 hb
  refine rPe T hS [4,9,10,63] [(6,I 0),(7,I cM)] fun a hS=>?_
  refine aZ ?_
  exact gF T hS hO (fun c h=>bS kr h) (fun c h=>bT (l:=(zAa2 i1 i2 i3 i4 m2)) h) (bN (zAa2 i1 i2 i3 i4 m2)) rfl (r:=[.int .i64 0,.int .i64 cM]) kr (fun X' hM hC=>⟨(0,cM,de ap p_.Oper (wR (((aC ap p_.Oper).getD 0)+1)),bz),hm,rfl,((hS.cell (id:=901) (t:=42) (cs:=[Sl a1 am c1]) kr).out (f:=(bN (zAa2 i1 i2 i3 i4 m2))) hC kr kr (hP.at 0 rfl)),((hS.cell (id:=902) (t:=113) (cs:=[V (.map (some r2))]) kr).out (f:=(bN (zAa2 i1 i2 i3 i4 m2))) hC kr kr (hP.at 1 rfl)),(h114.out (f:=(bN (zAa2 i1 i2 i3 i4 m2))) hM hC kr kr),((hS.cell (id:=903) (t:=48) (cs:=(cO aM a3 c3)) kr).out (f:=(bN (zAa2 i1 i2 i3 i4 m2))) hC kr kr (hP.at 2 rfl)),((hS.cell (id:=904) (t:=3) (cs:=[I bz]) kr).out (f:=(bN (zAa2 i1 i2 i3 i4 m2))) hC kr kr (hP.at 3 rfl))⟩)
 replace hm:=hm.2 hb
 refine aL ?_
 refine rM T hS ⟨[(9,I bA.1)],[(901,(42,[Sl a1 am c1])),(902,(113,[V (.map (some r2))])),(903,(48,(cO aM a3 c3))),(904,(3,[I bA.1]))]⟩ fun Z a tS wZ hS hE hr=>?_
 replace hO:=hO.m2 hE
 replace h113:=h113.m1 hE
 replace h114:=h114.m2 hE
 replace h115:=h115.m1 hE
 replace hP:=hP.mv hr kr
 clear hE hr
 refine rPe T hS [9] [(6,I bA.1),(7,I 0)] fun a hS=>?_
 refine aZ ?_
 exact gF T hS hO (fun c h=>bS kr h) (fun c h=>bT (l:=(zAa2 i1 i2 i3 i4 m2)) h) (bN (zAa2 i1 i2 i3 i4 m2)) rfl (r:=[.int .i64 bA.1,.int .i64 0]) kr (fun X' hM hC=>⟨(bA.1,0,de ap p_.Oper (wR (((aC ap p_.Oper).getD 0)+1)),bA.1),hm,rfl,((hS.cell (id:=901) (t:=42) (cs:=[Sl a1 am c1]) kr).out (f:=(bN (zAa2 i1 i2 i3 i4 m2))) hC kr kr (hP.at 0 rfl)),((hS.cell (id:=902) (t:=113) (cs:=[V (.map (some r2))]) kr).out (f:=(bN (zAa2 i1 i2 i3 i4 m2))) hC kr kr (hP.at 1 rfl)),(h114.out (f:=(bN (zAa2 i1 i2 i3 i4 m2))) hM hC kr kr),((hS.cell (id:=903) (t:=48) (cs:=(cO aM a3 c3)) kr).out (f:=(bN (zAa2 i1 i2 i3 i4 m2))) hC kr kr (hP.at 2 rfl)),((hS.cell (id:=904) (t:=3) (cs:=[I bA.1]) kr).out (f:=(bN (zAa2 i1 i2 i3 i4 m2))) hC kr kr (hP.at 3 rfl))⟩)
theorem C97 (JJ:S98) (v:∀ (p_:aa) (am:List ab) (ap:List (Int × Int)) (aM:al) (bz:Int),VC97 p_ am ap aM bz (fun r=>r=c7 p_ am ap aM bz)):S97:=by
 intro w X p_ am ap aM bz a1 c1 r2 m2 a3 c3  b1 i1 b2 i2 b3 i3 b4 i4 h1 h2 h3 ff gE lc ti hA
 refine (W97 JJ w X p_ am ap aM bz a1 c1 r2 m2 a3 c3  b1 i1 b2 i2 b3 i3 b4 i4 _ (v p_ am ap aM bz) h1 h2 h3 ff gE lc ti hA).mono ?_
 rintro _ _ _ _ ⟨r,rfl,h⟩
 exact h
theorem W62 (JU:S85) (JT:S86) (JK:S97) (w0) (X0) (o_:al) (l_:List ab) (state:Int) (ac:List aa) (a1) (c1) (a2) (c2) (a3) (c3) (Q:Int × Int × Int->Prop) (hm:VC62 o_ l_ state ac Q) (h1:RS ay w0 X0 a1 o_.Rows c1) (h2:RS ao w0 X0 a2 l_ c2) (h3:RS ar w0 X0 a3 ac c3) :
  Ret Tryz.prog 62 #[.agg #[.int .i64 o_.aq,.int .i64 o_.ax,.int .i64 o_.aE,.slice a1 o_.Rows.length c1],.slice a2 l_.length c2,.int .i64 state,.slice a3 ac.length c3] aJ w0 X0 (fun w X' v=>∃ r,Q r/\v=.tuple #[.int .i64 r.1,.int .i64 r.2.1,.int .i64 r.2.2]):=by
 unfold VC62 at hm
 replace hm:=hm (h1.sm kr)
 replace hm:=hm (h2.sm kr)
 replace hm:=hm (h3.sm kr)
 refine enter Tryz.func62 rfl (vals:=[.agg #[.int .i64 o_.aq,.int .i64 o_.ax,.int .i64 o_.aE,.slice a1 o_.Rows.length c1],.slice a2 l_.length c2,.int .i64 state,.slice a3 ac.length c3]) kr ?_
 intro Z a hS hO hM
 replace h1:=h1.m0 hM
 replace h2:=h2.m0 hM
 replace h3:=h3.m0 hM
 refine rM T hS ⟨[(1,Sl a2 l_ c2),(2,I state),(3,Sl a3 ac c3),(4,Pt 5 0)],[(5,(48,(cO o_ a1 c1)))]⟩ fun Z a sf wT hS hE hr=>?_
 replace hO:=hO.m2 hE
 replace h1:=h1.m1 hE
 replace h2:=h2.m1 hE
 replace h3:=h3.m1 hE
 clear hE hr
 refine bd ?_
 refine bn ?_
 refine oPe T hS 2 [] [(17,V (.agg #[.int .i64 o_.aq,.int .i64 o_.ax,.int .i64 o_.aE,.slice a1 o_.Rows.length c1])),(18,I state)] fun a hS=>?_
 obtain ⟨hq,hm⟩:=hm
 refine op1 (call hS kr kr hb85 kr (fun _ _=>rfl) (JU _ _ o_ state a1 c1 hq h1) ?_)
 intro v101 a fh fo hE hp hS
 replace hO:=hO.m2 hE
 replace h1:=h1.m1 hE
 replace h2:=h2.m1 hE
 replace h3:=h3.m1 hE
 obtain ⟨av,hr⟩:∃ r,fG o_ state=r:=⟨_,rfl⟩
 replace hm:=hm av hr
 rw [hr] at hp
 clear hr
 subst hp
 refine ePe T hS [17,18,19] [(11,I av)] fun a hS=>?_
 refine rPe T hS [] [(21,B (av != 0))] fun a hS=>?_
 refine aF hS (b:=(av != 0)) kr (fun hb=>?_) fun hb=>?_
 ·replace hm:=hm.1 hb
  refine rP T hS ⟨[(8,I 0),(9,I (-1)),(10,I av)],[]⟩ fun a hS=>?_
  refine aZ ?_
  exact fin T hS hO (fun c=>c) rfl (r:=[.int .i64 0,.int .i64 (-1),.int .i64 av]) kr (fun X' hM hC=>⟨(0,(-1),av),hm,rfl⟩)
 replace hm:=hm.2 hb
 refine aL ?_
 refine bn ?_
 refine oP T hS 3 ⟨[(2,I state),(3,Sl a3 ac c3),(23,V (.agg #[.int .i64 o_.aq,.int .i64 o_.ax,.int .i64 o_.aE,.slice a1 o_.Rows.length c1])),(24,Sl a2 l_ c2),(25,I state)],[]⟩ fun a hS=>?_
 refine op1 (call hS kr kr hb86 kr (fun _ _=>rfl) (JT _ _ o_ l_ state a1 c1 a2 c2 2113 701 702 703 704 h1 h2) ?_)
 intro v105 a nk ne hE hp hS
 replace hO:=hO.m2 hE
 replace h1:=h1.m1 hE
 replace h2:=h2.m1 hE
 replace h3:=h3.m1 hE
 obtain ⟨ci,ce,fF,lA,lz,b117,b118,b119,b120,hp,h111,h116,rU,uI,h112,qq,Bl⟩:=hp
 obtain ⟨a8,hr⟩:∃ r,dS o_ l_ state=r:=⟨_,rfl⟩
 replace hm:=hm a8 hr
 rw [hr] at h111 h116 rU qq Bl h112
 clear hr
 subst hp
 replace hm:=hm (h111.sm kr)
 replace hm:=hm (h116.sm kr)
 replace hS:=hS.oe (id:=701) (t:=42) (cs:=[Sl ci a8.1 ce]) kr kr rU rfl
 replace hS:=hS.oe (id:=702) (t:=113) (cs:=[V (.map (some fF))]) kr kr uI rfl
 replace hS:=hS.oe (id:=703) (t:=48) (cs:=(cO a8.2.2.1 lA lz)) kr kr qq rfl
 replace hS:=hS.oe (id:=704) (t:=3) (cs:=[I a8.2.2.2]) kr kr Bl rfl
 replace hS:=hS.Bz (t:=26) (x:=V (.func (.func 97) #[] #[.pointer (some ⟨b117,0,none⟩),.pointer (some ⟨b118,0,none⟩),.pointer (some ⟨b119,0,none⟩),.pointer (some ⟨b120,0,none⟩)])) (y:=.f (.func 97) [] [.p 701 0,.p 702 0,.p 703 0,.p 704 0]) kr rfl
 generalize (upd (upd (upd (upd Z 701 b117) 702 b118) 703 b119) 704 b120)=Z at hS
 clear rU uI qq Bl
 refine ePe T hS [23,24,25,26] [(12,.f (.func 97) [] [.p 701 0,.p 702 0,.p 703 0,.p 704 0])] fun a hS=>?_
 refine rPe T hS [2] [(8,I state)] fun a hS=>?_
 refine b5 (fun a w=>∃ (Z:Nat->Nat) (X:Nat->Nat) (mG:Int),VC62_J1 ac Q mG/\St Tryz.f62.ntmps ⟨[(3,Sl a3 ac c3),(8,I mG)],[]⟩ Z a w X/\Old w0 X0 w X/\RS ar w X a3 ac c3) ?_ ?_
 ·refine rPe T hS [] [(28,Sl a3 ac c3),(29,I (lN ac)),(30,I 0)] fun a hS=>?_
  refine aN ?_
  obtain ⟨I1,μ1,cy,hm⟩:=hm
  refine cw (σ:=Int × Int × (List (Int × Int)) × Int) (fun s a w=>∃ Z X,I1 s.1 s.2.1 s.2.2.1 s.2.2.2/\St Tryz.f62.ntmps ⟨[(3,Sl a3 ac c3),(8,I s.1),(12,.f (.func 97) [] [.p 701 0,.p 702 0,.p 703 0,.p 704 0]),(28,Sl a3 ac c3),(29,I (lN ac)),(30,I s.2.1)],[(701,(42,[Sl ci a8.1 ce])),(702,(113,[V (.map (some fF))])),(703,(48,(cO a8.2.2.1 lA lz))),(704,(3,[I s.2.2.2]))]⟩ Z a w X/\Old w0 X0 w X/\RS ar w X a3 ac c3/\RS ar w X a3 ac c3/\RS ao w X ci a8.1 ce/\OM kI tI false w X 2113 fF s.2.2.1/\RS ay w X lA a8.2.2.1.Rows lz) (fun s=>μ1 s.1 s.2.1 s.2.2.1 s.2.2.2) (⟨state,0,a8.2.1,a8.2.2.2⟩) ?_ ?_
  ·exact ⟨Z,_,cy,hS.sl _,hO,h3,h3,h111,h112,h116⟩
  rintro ⟨fL,lw,gy,fX⟩ a EF ⟨Z,F4,hI,hS,hO,h127,h129,h131,h133,h134⟩
  replace hm:=hm fL lw gy fX hI
  clear hI cy
  refine rPe T hS [] [(31,B (decide (lw < (lN ac))))] fun a hS=>?_
  refine bd ?_
  refine aF hS (b:=decide (lw < (lN ac))) kr (fun hb=>?_) fun hb=>?_
  ·replace hm:=hm.1 hb
   refine aL (bd ?_)
   refine aN ?_
   refine bn ?_
   refine oPe T hS 1 [8,31] [(32,I lw)] fun a hS=>?_
   obtain ⟨hq,hm⟩:=hm
   refine op1 (index (e:=56) (k:=.i64) T hS kr kr kr kr h129 kr kr hq.1 hq.2 ?_)
   intro Ga a h137 hS
   refine op1 (eB T hS kr kr kr h137 kr kr ?_)
   intro v138 a hv hS
   subst hv
   refine eM T hS ⟨[(3,Sl a3 ac c3),(12,.f (.func 97) [] [.p 701 0,.p 702 0,.p 703 0,.p 704 0]),(13,I lw),(14,Pt 15 0),(28,Sl a3 ac c3),(29,I (lN ac)),(30,I lw)],[(15,(56,(cK (gi ac lw)))),(701,(42,[Sl ci a8.1 ce])),(702,(113,[V (.map (some fF))])),(703,(48,(cO a8.2.2.1 lA lz))),(704,(3,[I fX]))]⟩ fun Z a Cu zU hS hE hr=>?_
   replace hO:=hO.m2 hE
   replace h127:=h127.m1 hE
   replace h129:=h129.m1 hE
   replace h131:=h131.m1 hE
   replace h133:=h133.m2 hE
   replace h134:=h134.m1 hE
   clear hE hr
   refine bn ?_
   refine oP T hS 2 ⟨[(3,Sl a3 ac c3),(12,.f (.func 97) [] [.p 701 0,.p 702 0,.p 703 0,.p 704 0]),(13,I lw),(28,Sl a3 ac c3),(29,I (lN ac)),(30,I lw),(36,.f (.func 97) [] [.p 701 0,.p 702 0,.p 703 0,.p 704 0]),(37,V (.agg #[.int .i64 ((gi ac lw).Oper),.int .i64 ((gi ac lw).Result)]))],[(701,(42,[Sl ci a8.1 ce])),(702,(113,[V (.map (some fF))])),(703,(48,(cO a8.2.2.1 lA lz))),(704,(3,[I fX]))]⟩ fun a hS=>?_
   refine op1 (jI (fi:=[]) (cp:=[.p 701 0,.p 702 0,.p 703 0,.p 704 0]) hS kr kr hb97 kr kr (JK _ _ (gi ac lw) a8.1 gy a8.2.2.1 fX ci ce fF 2113 lA lz (Z 701) 701 (Z 702) 702 (Z 703) 703 (Z 704) 704 h131 h133 h134 (hS.cell (id:=701) (t:=42) (cs:=[Sl ci a8.1 ce]) kr) (hS.cell (id:=702) (t:=113) (cs:=[V (.map (some fF))]) kr) (hS.cell (id:=703) (t:=48) (cs:=(cO a8.2.2.1 lA lz)) kr) (hS.cell (id:=704) (t:=3) (cs:=[I fX]) kr) ⟨by decide,by decide⟩) ?_)
   intro v139 a yB zX hE hp hS
   clear h133
   replace hO:=hO.m2 hE
   replace h127:=h127.m1 hE
   replace h129:=h129.m1 hE
   replace h131:=h131.m1 hE
   replace h134:=h134.m1 hE
   obtain ⟨hp,D3,D2,h143,uF,rx⟩:=hp
   obtain ⟨bZ,hr⟩:∃ r,c7 (gi ac lw) a8.1 gy a8.2.2.1 fX=r:=⟨_,rfl⟩
   replace hm:=hm bZ hr
   rw [hr] at hp rx h143
   clear hr
   subst hp
   replace hS:=hS.cx (id:=701) (t:=42) (cs:=[Sl ci a8.1 ce]) kr D3
   replace hS:=hS.cx (id:=702) (t:=113) (cs:=[V (.map (some fF))]) kr D2
   replace hS:=hS.cx (id:=703) (t:=48) (cs:=(cO a8.2.2.1 lA lz)) kr uF
   replace hS:=hS.cx (id:=704) (t:=3) (cs:=[I bZ.2.2.2]) kr rx
   clear D3 D2 uF rx
   refine ePe T hS [36,37,38] [(15,I bZ.1),(16,I bZ.2.1)] fun a hS=>?_
   refine bd ?_
   refine rPe T hS [] [(42,B (bZ.2.1 != 0))] fun a hS=>?_
   refine aF hS (b:=(bZ.2.1 != 0)) kr (fun hb=>?_) fun hb=>?_
   ·replace hm:=hm.1 hb
    refine rP T hS ⟨[(8,I 0),(9,I lw),(10,I bZ.2.1)],[]⟩ fun a hS=>?_
    refine aZ ?_
    exact fin T hS hO (fun c=>c) rfl (r:=[.int .i64 0,.int .i64 lw,.int .i64 bZ.2.1]) kr (fun X' hM hC=>⟨(0,lw,bZ.2.1),hm,rfl⟩)
   replace hm:=hm.2 hb
   refine aL ?_
   refine region (ePe T hS [13,15,16,42] [(8,I bZ.1)] fun a hS=>?_)
   refine region (ePe T hS [] [(30,I (wR (lw+1)))] fun a hS=>?_)
   exact ⟨⟨bZ.1,wR (lw+1),bZ.2.2.1,bZ.2.2.2⟩,⟨Z,_,hm.1,hS.sl _,hO,h127,h129,h131,h143,h134⟩,hm.2⟩
  replace hm:=hm.2 hb
  refine cl (by rfl) ?_
  exact ⟨Z,_,fL,hm,hS.sl _,hO,h127⟩
 rintro a Ad ⟨Z,wU,mG,hm,hS,hO,h125⟩
 unfold VC62_J1 at hm
 refine rPe T hS [3] [(9,I (lN ac)),(10,I 0)] fun a hS=>?_
 refine aZ ?_
 exact fin T hS hO (fun c=>c) rfl (r:=[.int .i64 mG,.int .i64 (lN ac),.int .i64 0]) kr (fun X' hM hC=>⟨(mG,(lN ac),0),hm,rfl⟩)
theorem C62 (JU:S85) (JT:S86) (JK:S97) (v:∀ (o_:al) (l_:List ab) (state:Int) (ac:List aa),xy o_ l_ state ac->VC62 o_ l_ state ac (fun r=>r=iQ o_ l_ state ac)):S62:=by
 intro w X o_ l_ state ac a1 c1 a2 c2 a3 c3   hp h1 h2 h3
 refine (W62 JU JT JK w X o_ l_ state ac a1 c1 a2 c2 a3 c3   _ (v o_ l_ state ac hp) h1 h2 h3).mono ?_
 rintro _ _ _ _ ⟨r,rfl,h⟩
 exact h
theorem W33 (J8:S62) (w0) (X0) (o_:al) (l_:List ab) (ac:List aa) (a1) (c1) (a2) (c2) (a3) (c3) (Q:Int × Int × Int->Prop) (hm:VC33 o_ l_ ac Q) (h1:RS ay w0 X0 a1 o_.Rows c1) (h2:RS ao w0 X0 a2 l_ c2) (h3:RS ar w0 X0 a3 ac c3) :
  Ret Tryz.prog 33 #[.agg #[.int .i64 o_.aq,.int .i64 o_.ax,.int .i64 o_.aE,.slice a1 o_.Rows.length c1],.slice a2 l_.length c2,.slice a3 ac.length c3] aJ w0 X0 (fun w X' v=>∃ r,Q r/\v=.tuple #[.int .i64 r.1,.int .i64 r.2.1,.int .i64 r.2.2]):=by
 unfold VC33 at hm
 replace hm:=hm (h1.sm kr)
 replace hm:=hm (h2.sm kr)
 replace hm:=hm (h3.sm kr)
 refine enter Tryz.func33 rfl (vals:=[.agg #[.int .i64 o_.aq,.int .i64 o_.ax,.int .i64 o_.aE,.slice a1 o_.Rows.length c1],.slice a2 l_.length c2,.slice a3 ac.length c3]) kr ?_
 intro Z a hS hO hM
 replace h1:=h1.m0 hM
 replace h2:=h2.m0 hM
 replace h3:=h3.m0 hM
 refine rM T hS ⟨[(1,Sl a2 l_ c2),(2,Sl a3 ac c3),(3,Pt 4 0)],[(4,(48,(cO o_ a1 c1)))]⟩ fun Z a mH lB hS hE hr=>?_
 replace hO:=hO.m2 hE
 replace h1:=h1.m1 hE
 replace h2:=h2.m1 hE
 replace h3:=h3.m1 hE
 clear hE hr
 refine bn ?_
 refine oP T hS 5 ⟨[(9,V (.agg #[.int .i64 o_.aq,.int .i64 o_.ax,.int .i64 o_.aE,.slice a1 o_.Rows.length c1])),(10,Sl a2 l_ c2),(12,I o_.aE),(13,Sl a3 ac c3)],[]⟩ fun a hS=>?_
 obtain ⟨hq,hm⟩:=hm
 refine op1 (call hS kr kr hb62 kr (fun _ _=>rfl) (J8 _ _ o_ l_ o_.aE ac a1 c1 a2 c2 a3 c3 hq h1 h2 h3) ?_)
 intro v101 a fh fo hE hp hS
 replace hO:=hO.m2 hE
 replace h1:=h1.m1 hE
 replace h2:=h2.m1 hE
 replace h3:=h3.m1 hE
 obtain ⟨av,hr⟩:∃ r,iQ o_ l_ o_.aE ac=r:=⟨_,rfl⟩
 replace hm:=hm av hr
 rw [hr] at hp
 clear hr
 subst hp
 refine ePe T hS [9,10,12,13,14] [(6,I av.1),(7,I av.2.1),(8,I av.2.2)] fun a hS=>?_
 refine aZ ?_
 exact fin T hS hO (fun c=>c) rfl (r:=[.int .i64 av.1,.int .i64 av.2.1,.int .i64 av.2.2]) kr (fun X' hM hC=>⟨(av.1,av.2.1,av.2.2),hm,rfl⟩)
theorem C33 (J8:S62) (v:∀ (o_:al) (l_:List ab) (ac:List aa),ka o_ l_ ac->VC33 o_ l_ ac (fun r=>r=b7 o_ l_ ac)):S33:=by
 intro w X o_ l_ ac a1 c1 a2 c2 a3 c3   hp h1 h2 h3
 refine (W33 J8 w X o_ l_ ac a1 c1 a2 c2 a3 c3   _ (v o_ l_ ac hp) h1 h2 h3).mono ?_
 rintro _ _ _ _ ⟨r,rfl,h⟩
 exact h
theorem W87 (w0) (X0) (ac:List aa) (a1) (c1) (cz) (dJ) (Q:(List (Int × Int))->Prop) (hm:VC87 ac Q) (h1:RS ar w0 X0 a1 ac c1) :
  Ret Tryz.prog 87 #[.slice a1 ac.length c1] aJ w0 X0 (fun w X' v=>∃ r,Q r/\∃ GS t0,v=.func (.func 99) #[] #[.pointer (some ⟨t0,0,none⟩)]/\Cell w X' t0 dJ 113 [.map (some GS)]/\OM kI tI false w X' cz GS r):=by
 unfold VC87 at hm
 replace hm:=hm (h1.sm kr)
 refine enter Tryz.func87 rfl (vals:=[.slice a1 ac.length c1]) kr ?_
 intro Z a hS hO hM
 replace h1:=h1.m0 hM
 refine rPe T hS [] [] fun a hS=>?_
 refine bn ?_
 refine op1 (oR kI tI false 1007 hS kr kr ?_)
 intro dN a fh fo hE h104 hS
 replace hO:=hO.m2 hE
 replace h1:=h1.m1 hE
 refine eM T hS ⟨[(0,Sl a1 ac c1),(3,Pt 4 0)],[(4,(113,[V (.map (some dN))]))]⟩ fun Z a EI wY hS hE hr=>?_
 replace hO:=hO.m2 hE
 replace h1:=h1.m1 hE
 replace h104:=h104.m2 hE
 clear hE hr
 refine b5 (fun a w=>∃ (Z:Nat->Nat) (X:Nat->Nat) (gC:List (Int × Int)),VC87_J1 Q gC/\St Tryz.f87.ntmps ⟨[(3,Pt 4 0)],[(4,(113,[V (.map (some dN))]))]⟩ Z a w X/\Old w0 X0 w X/\OM kI tI false w X 1007 dN gC) ?_ ?_
 ·refine rPe T hS [0] [(7,Sl a1 ac c1),(8,I (lN ac)),(9,I 0)] fun a hS=>?_
  refine aN ?_
  obtain ⟨I1,μ1,cy,hm⟩:=hm
  refine cw (σ:=Int × (List (Int × Int))) (fun s a w=>∃ Z X,I1 s.1 s.2/\St Tryz.f87.ntmps ⟨[(3,Pt 4 0),(7,Sl a1 ac c1),(8,I (lN ac)),(9,I s.1)],[(4,(113,[V (.map (some dN))]))]⟩ Z a w X/\Old w0 X0 w X/\RS ar w X a1 ac c1/\OM kI tI false w X 1007 dN s.2) (fun s=>μ1 s.1 s.2) (⟨0,([]:List (Int × Int))⟩) ?_ ?_
  ·exact ⟨Z,_,cy,hS.sl _,hO,h1,h104⟩
  rintro ⟨dn,cQ⟩ a Ae ⟨Z,zZ,hI,hS,hO,h107,h110⟩
  replace hm:=hm dn cQ hI
  clear hI cy
  refine rPe T hS [] [(10,B (decide (dn < (lN ac))))] fun a hS=>?_
  refine bd ?_
  refine aF hS (b:=decide (dn < (lN ac))) kr (fun hb=>?_) fun hb=>?_
  ·replace hm:=hm.1 hb
   refine aL (bd ?_)
   refine aN ?_
   refine bn ?_
   obtain ⟨hq,hm⟩:=hm
   refine op1 (index (e:=56) (k:=.i64) T hS kr kr kr kr h107 kr kr hq.1 hq.2 ?_)
   intro B7 a h112 hS
   refine op1 (eB T hS kr kr kr h112 kr kr ?_)
   intro v113 a hv hS
   subst hv
   refine eM T hS ⟨[(3,Pt 4 0),(5,Pt 6 0),(7,Sl a1 ac c1),(8,I (lN ac)),(9,I dn)],[(4,(113,[V (.map (some dN))])),(6,(56,(cK (gi ac dn))))]⟩ fun Z a Af DA hS hE hr=>?_
   replace hO:=hO.m2 hE
   replace h107:=h107.m1 hE
   replace h110:=h110.m2 hE
   clear hE hr
   refine region ?_
   refine oP T hS 3 ⟨[(3,Pt 4 0),(7,Sl a1 ac c1),(8,I (lN ac)),(9,I dn),(13,V (.map (some dN))),(15,I ((gi ac dn).Oper))],[(4,(113,[V (.map (some dN))]))]⟩ fun a hS=>?_
   refine op1 (jB kI tI false (zv:=.int .i64 0) (z:=0) ((gi ac dn).Oper) hS kr kr kr kr Tryz.underlying113 Tryz.underlying3 kr rfl h110 ?_)
   intro v114 a hv hS
   replace hv:tI.R _ _ [v114] _:=hv
   cases hv
   refine oPe T hS 1 [16] [(17,I (wR (((aC cQ ((gi ac dn).Oper)).getD 0)+1)))] fun a hS=>?_
   refine op1 (sZ kI tI false (v:=I (wR (((aC cQ ((gi ac dn).Oper)).getD 0)+1))) (u:=wR (((aC cQ ((gi ac dn).Oper)).getD 0)+1)) ((gi ac dn).Oper) hS kr kr kr kr Tryz.underlying113 Tryz.underlying3 kr h110 rfl ?_)
   intro a o5 hE h116 hS
   clear h110
   replace hO:=hO.m2 hE
   replace h107:=h107.m1 hE
   refine g8 ?_
   refine region (ePe T hS [] [(9,I (wR (dn+1)))] fun a hS=>?_)
   exact ⟨⟨wR (dn+1),de cQ ((gi ac dn).Oper) (wR (((aC cQ ((gi ac dn).Oper)).getD 0)+1))⟩,⟨Z,_,hm.1,hS.sl _,hO,h107,h116⟩,hm.2⟩
  replace hm:=hm.2 hb
  refine cl (by rfl) ?_
  exact ⟨Z,_,cQ,hm,hS.sl _,hO,h110⟩
 rintro a tR ⟨Z,Dz,gC,hm,hS,hO,h106⟩
 unfold VC87_J1 at hm
 refine rPe T hS [3] [(2,.f (.func 99) [] [.p 4 0])] fun a hS=>?_
 refine aZ ?_
 exact fin T hS hO (zAa1 dJ cz) rfl (r:=[.func (.func 99) #[] #[.pointer (some ⟨Z 4,0,none⟩)]]) kr (fun X' hM hC=>⟨gC,hm,dN,(Z 4),rfl,((hS.cell (id:=4) (t:=113) (cs:=[V (.map (some dN))]) kr).out (f:=(zAa1 dJ cz)) hC kr kr rfl),(h106.out (f:=(zAa1 dJ cz)) hM hC kr kr)⟩)
theorem C87 (v:∀ (ac:List aa),VC87 ac (fun r=>r=e7 ac)):S87:=by
 intro w X ac a1 c1 cz dJ  h1
 refine (W87 w X ac a1 c1 cz dJ  _ (v ac) h1).mono ?_
 rintro _ _ _ _ ⟨r,rfl,h⟩
 exact h
theorem W99 (w0) (X0) (i_:Int) (am:List (Int × Int)) (r1) (m1) (b1) (i1) (Q:Bool->Prop) (hm:VC99 i_ am Q) (h1:OM kI tI false w0 X0 m1 r1 am) (ff:Cell w0 X0 b1 i1 113 [.map (some r1)]) (hA:dH [i1,m1]) :
  Ret Tryz.prog 99 #[.int .i64 i_,.pointer (some ⟨b1,0,none⟩)] (pR [i1,m1]) w0 X0 (fun w X' v=>∃ r,Q r/\v=.bool r/\Cell w X' b1 i1 113 [.map (some r1)]/\OM kI tI false w X' m1 r1 am):=by
 unfold VC99 at hm
 refine fB Tryz.func99 rfl (dx [(i1,901),(m1,2001)]) (fun id=>(bif Nat.beq id 901 then b1 else 0)) (args:=[I i_,Pt 901 0]) (bxs:=[(901,(113,[V (.map (some r1))]))]) kr rfl (bm.cons kr (ff.map (bK 0 hA.1 rfl)) bm.nil) (fm (fun q hq=>(hA.2 q.1 (List.mem_map.2 ⟨q,hq,rfl⟩)).1)) ?_
 intro a hS hO hM
 have hP:Pin [(901,b1)] (fun id=>(bif Nat.beq id 901 then b1 else 0)):=by intro q hq; simp at hq; rcases hq with rfl <;> rfl
 generalize (fun id=>(bif Nat.beq id 901 then b1 else 0))=Z at hS hP
 clear ff
 replace h1:=h1.map (f:=dx [(i1,901),(m1,2001)]) (bK 1 hA.1 rfl) hM
 refine rPe T hS [] [] fun a hS=>?_
 refine bn ?_
 refine oPe T hS 2 [0,1] [(4,V (.map (some r1))),(5,I i_)] fun a hS=>?_
 refine op1 (jB kI tI false (zv:=.int .i64 0) (z:=0) i_ hS kr kr kr kr Tryz.underlying113 Tryz.underlying3 kr rfl h1 ?_)
 intro v101 a hv hS
 replace hv:tI.R _ _ [v101] _:=hv
 cases hv
 refine ePe T hS [4,5,6] [(3,B (((aC am i_).getD 0) == 0))] fun a hS=>?_
 refine aZ ?_
 exact gF T hS hO (fun c h=>bS kr h) (fun c h=>bT (l:=[(i1,901),(m1,2001)]) h) (bN [(i1,901),(m1,2001)]) rfl (r:=[.bool (((aC am i_).getD 0) == 0)]) kr (fun X' hM hC=>⟨(((aC am i_).getD 0) == 0),hm,rfl,((hS.cell (id:=901) (t:=113) (cs:=[V (.map (some r1))]) kr).out (f:=(bN [(i1,901),(m1,2001)])) hC kr kr (hP.at 0 rfl)),(h1.out (f:=(bN [(i1,901),(m1,2001)])) hM hC kr kr)⟩)
theorem C99 (v:∀ (i_:Int) (am:List (Int × Int)),VC99 i_ am (fun r=>r=e6 i_ am)):S99:=by
 intro w X i_ am r1 m1  b1 i1 h1 ff hA
 refine (W99 w X i_ am r1 m1  b1 i1 _ (v i_ am) h1 ff hA).mono ?_
 rintro _ _ _ _ ⟨r,rfl,h⟩
 exact h
theorem W64 (JS:S87) (JI:S99) (w0) (X0) (l_:List ab) (ac:List aa) (pending:Bool) (a1) (c1) (a2) (c2) (Q:(List Int)->Prop) (hm:VC64 l_ ac pending Q) (h1:RS ao w0 X0 a1 l_ c1) (h2:RS ar w0 X0 a2 ac c2) :
  Ret Tryz.prog 64 #[.slice a1 l_.length c1,.slice a2 ac.length c2,.bool pending] aJ w0 X0 (fun w X' v=>∃ r,Q r/\∃ cB cA,v=.slice cB r.length cA/\RS tI w X' cB r cA):=by
 unfold VC64 at hm
 replace hm:=hm (h1.sm kr)
 replace hm:=hm (h2.sm kr)
 refine enter Tryz.func64 rfl (vals:=[.slice a1 l_.length c1,.slice a2 ac.length c2,.bool pending]) kr ?_
 intro Z a hS hO hM
 replace h1:=h1.m0 hM
 replace h2:=h2.m0 hM
 refine rPe T hS [] [] fun a hS=>?_
 refine bn ?_
 refine oPe T hS 1 [1] [(11,Sl a2 ac c2)] fun a hS=>?_
 refine op1 (call hS kr kr hb87 kr (fun _ _=>rfl) (JS _ _ ac a2 c2 2106 701 h2) ?_)
 intro v101 a fh fo hE hp hS
 replace hO:=hO.m2 hE
 replace h1:=h1.m1 hE
 replace h2:=h2.m1 hE
 obtain ⟨f8,b107,hp,Ef,h105⟩:=hp
 obtain ⟨av,hr⟩:∃ r,e7 ac=r:=⟨_,rfl⟩
 replace hm:=hm av hr
 rw [hr] at h105
 clear hr
 subst hp
 replace hS:=hS.oe (id:=701) (t:=113) (cs:=[V (.map (some f8))]) kr kr Ef rfl
 replace hS:=hS.Bz (t:=12) (x:=V (.func (.func 99) #[] #[.pointer (some ⟨b107,0,none⟩)])) (y:=.f (.func 99) [] [.p 701 0]) kr rfl
 generalize (upd Z 701 b107)=Z at hS
 clear Ef
 refine ePe T hS [11,12] [(7,.f (.func 99) [] [.p 701 0])] fun a hS=>?_
 refine rPe T hS [] [(8,V (.slice none 0 0))] fun a hS=>?_
 refine b5 (fun a w=>∃ (Z:Nat->Nat) (X:Nat->Nat) (cQ:List Int) (gu:Option Addr) (gt:Nat),VC64_J1 Q cQ/\St Tryz.f64.ntmps ⟨[(8,Sl gu cQ gt)],[]⟩ Z a w X/\Old w0 X0 w X/\OS tI 3 w X 1007 gu cQ gt) ?_ ?_
 ·refine rPe T hS [0] [(13,Sl a1 l_ c1),(14,I (lN l_)),(15,I 0)] fun a hS=>?_
  refine aN ?_
  obtain ⟨I1,μ1,cy,hm⟩:=hm
  refine cw (σ:=(List Int) × Int) (fun s a w=>∃ Z X dZ dY,I1 s.1 s.2/\St Tryz.f64.ntmps ⟨[(2,B pending),(7,.f (.func 99) [] [.p 701 0]),(8,Sl dZ s.1 dY),(13,Sl a1 l_ c1),(14,I (lN l_)),(15,I s.2)],[(701,(113,[V (.map (some f8))]))]⟩ Z a w X/\Old w0 X0 w X/\OS tI 3 w X 1007 dZ s.1 dY/\RS ao w X a1 l_ c1/\OM kI tI false w X 2106 f8 av) (fun s=>μ1 s.1 s.2) (⟨[],0⟩) ?_ ?_
  ·exact ⟨Z,_,none,0,cy,hS.sl _,hO,(OS.nil _ _ _ _ _),h1,h105⟩
  rintro ⟨bi,d1⟩ a Ac ⟨Z,F3,dZ,dY,hI,hS,hO,h118,h119,h121⟩
  replace hm:=hm bi d1 hI
  clear hI cy
  refine rPe T hS [] [(16,B (decide (d1 < (lN l_))))] fun a hS=>?_
  refine bd ?_
  refine aF hS (b:=decide (d1 < (lN l_))) kr (fun hb=>?_) fun hb=>?_
  ·replace hm:=hm.1 hb
   refine aL ?_
   refine b5 (fun a w=>∃ (Z:Nat->Nat) (X:Nat->Nat) (aU:List Int) (oF:Option Addr) (oB:Nat),VC64_J2 I1 μ1 bi d1 aU/\St Tryz.f64.ntmps ⟨[(2,B pending),(7,.f (.func 99) [] [.p 701 0]),(8,Sl oF aU oB),(13,Sl a1 l_ c1),(14,I (lN l_)),(15,I d1)],[(701,(113,[V (.map (some f8))]))]⟩ Z a w X/\Old w0 X0 w X/\OS tI 3 w X 1007 oF aU oB/\RS ao w X a1 l_ c1/\OM kI tI false w X 2106 f8 av) ?_ ?_
   ·refine aN ?_
    refine bn ?_
    refine oPe T hS 1 [16] [(17,I d1)] fun a hS=>?_
    obtain ⟨hq,hm⟩:=hm
    refine op1 (index (e:=102) (k:=.i64) T hS kr kr kr kr h119 kr kr hq.1 hq.2 ?_)
    intro L5 a h129 hS
    refine op1 (eB T hS kr kr kr h129 kr kr ?_)
    intro v130 a hv hS
    subst hv
    refine eM T hS ⟨[(2,B pending),(7,.f (.func 99) [] [.p 701 0]),(8,Sl dZ bi dY),(9,I d1),(10,Pt 11 0),(13,Sl a1 l_ c1),(14,I (lN l_)),(15,I d1)],[(11,(102,(cP (gi l_ d1)))),(701,(113,[V (.map (some f8))]))]⟩ fun Z a EE BW hS hE hr=>?_
    replace hO:=hO.m2 hE
    replace h118:=h118.m2 hE
    replace h119:=h119.m1 hE
    replace h121:=h121.m2 hE
    clear hE hr
    refine b5 (fun a w=>∃ (Z:Nat->Nat) (X:Nat->Nat) (fK:List Int) (jq:Bool) (gJ:Option Addr) (gI:Nat),VC64_J3 I1 μ1 bi d1 fK jq/\St Tryz.f64.ntmps ⟨[(2,B pending),(7,.f (.func 99) [] [.p 701 0]),(8,Sl gJ fK gI),(9,I d1),(13,Sl a1 l_ c1),(14,I (lN l_)),(15,I d1),(29,B jq)],[(701,(113,[V (.map (some f8))]))]⟩ Z a w X/\Old w0 X0 w X/\OS tI 3 w X 1007 gJ fK gI/\RS ao w X a1 l_ c1/\OM kI tI false w X 2106 f8 av) ?_ ?_
    ·refine region ?_
     refine oP T hS 6 ⟨[(2,B pending),(7,.f (.func 99) [] [.p 701 0]),(8,Sl dZ bi dY),(9,I d1),(13,Sl a1 l_ c1),(14,I (lN l_)),(15,I d1),(25,B ((((gi l_ d1).End) == (-1)) == pending))],[(701,(113,[V (.map (some f8))]))]⟩ fun a hS=>?_
     rcases bft ((((gi l_ d1).End) == (-1)) == pending) with hb | hb
     ·replace hS:=hS.lit (t:=25) kr hb
      replace hm:=hm.1 hb
      refine oPe T hS 2 [] [(26,.f (.func 99) [] [.p 701 0]),(27,I d1)] fun a hS=>?_
      refine op1 (jI (fi:=[]) (cp:=[.p 701 0]) hS kr kr hb99 kr kr (JI _ _ d1 av f8 2106 (Z 701) 701 h121 (hS.cell (id:=701) (t:=113) (cs:=[V (.map (some f8))]) kr) ⟨by decide,by decide⟩) ?_)
      intro v147 a Cu zU hE hp hS
      clear h121
      replace hO:=hO.m2 hE
      replace h118:=h118.m2 hE
      replace h119:=h119.m1 hE
      obtain ⟨hp,DZ,h152⟩:=hp
      obtain ⟨yU,hr⟩:∃ r,e6 d1 av=r:=⟨_,rfl⟩
      replace hm:=hm yU hr
      rw [hr] at hp
      clear hr
      subst hp
      replace hS:=hS.cx (id:=701) (t:=113) (cs:=[V (.map (some f8))]) kr DZ
      clear DZ
      refine ePe T hS [25,26,27,28] [(29,B yU)] fun a hS=>?_
      exact ⟨Z,_,bi,yU,dZ,dY,hm,hS.sl _,hO,h118,h119,h152⟩
     replace hS:=hS.lit (t:=25) kr hb
     replace hm:=hm.2 hb
     refine ePe T hS [25] [(29,B false)] fun a hS=>?_
     exact ⟨Z,_,bi,false,dZ,dY,hm,hS.sl _,hO,h118,h119,h121⟩
    rintro a sf ⟨Z,IB,fK,jq,gJ,gI,hm,hS,hO,h134,h135,h137⟩
    unfold VC64_J3 at hm
    refine aF hS (b:=jq) kr (fun hb=>?_) fun hb=>?_
    ·replace hm:=hm.1 hb
     refine region ?_
     refine oPe T hS 2 [9,29] [(30,Sl gJ fK gI),(31,I d1)] fun a hS=>?_
     refine op1 (lit (E:=3) (col:=0) (T:=tI) (vals:=[.int .i64 d1]) (ys:=[d1]) T hS kr kr kr kr (by exact ⟨rfl,trivial⟩) rfl kr kr kr kr ?_)
     intro b138 a sg vy hE h141 hN hS
     clear hN
     replace hO:=hO.m2 hE
     replace h134:=h134.m2 hE
     replace h135:=h135.m1 hE
     replace h137:=h137.m2 hE
     replace h141:=h141.rs0
     obtain ⟨hq,hm⟩:=hm
     obtain ⟨news,hN⟩:=h141.src
     refine op1 (append (E:=3) (T:=tI) (col:=1007) (xs:=fK) T hS kr kr kr kr h134 hN kr kr kr kr hq ?_)
     intro vv vj a qY ra hE h144 hS
     clear hq hN
     clear h134
     replace hO:=hO.m2 hE
     replace h135:=h135.m1 hE
     replace h137:=h137.m2 hE
     replace h141:=h141.m1 hE
     refine ePe T hS [31,32,33] [(8,Sl vv (fK++[d1]) vj)] fun a hS=>?_
     exact ⟨Z,_,fK++[d1],vv,vj,hm,hS.sl _,hO,h144,h135,h137⟩
    replace hm:=hm.2 hb
    refine aL ?_
    exact ⟨Z,_,fK,gJ,gI,hm,hS.sl _,hO,h134,h135,h137⟩
   rintro a Cs ⟨Z,Dx,aU,oF,oB,hm,hS,hO,h125,h126,h127⟩
   unfold VC64_J2 at hm
   refine region (ePe T hS [] [(15,I (wR (d1+1)))] fun a hS=>?_)
   exact ⟨⟨aU,wR (d1+1)⟩,⟨Z,_,oF,oB,hm.1,hS.sl _,hO,h125,h126,h127⟩,hm.2⟩
  replace hm:=hm.2 hb
  refine cl (by rfl) ?_
  exact ⟨Z,_,bi,dZ,dY,hm,hS.sl _,hO,h118⟩
 rintro a Cr ⟨Z,BV,cQ,gu,gt,hm,hS,hO,h112⟩
 unfold VC64_J1 at hm
 refine rPe T hS [8] [(6,Sl gu cQ gt)] fun a hS=>?_
 refine aZ ?_
 obtain ⟨vA,hE,hF⟩:=h112.freeze (by decide)
 replace hS:=hS.ev hE (cN kr)
 replace hO:=hO.m2 hE
 have h114:=hF; clear hE hF
 exact fin T hS hO (fun c=>c) rfl (r:=[.slice gu cQ.length gt]) kr (fun X' hM hC=>⟨cQ,hm,gu,gt,rfl,h114.m0 hM⟩)
theorem C64 (JS:S87) (JI:S99) (v:∀ (l_:List ab) (ac:List aa) (pending:Bool),uo l_ ac pending->VC64 l_ ac pending (fun r=>r=dR l_ ac pending)):S64:=by
 intro w X l_ ac pending a1 c1 a2 c2   hp h1 h2
 refine (W64 JS JI w X l_ ac pending a1 c1 a2 c2   _ (v l_ ac pending hp) h1 h2).mono ?_
 rintro _ _ _ _ ⟨r,rfl,h⟩
 exact h
theorem W35 (J7:S64) (w0) (X0) (l_:List ab) (ac:List aa) (a1) (c1) (a2) (c2) (Q:(List Int)->Prop) (hm:VC35 l_ ac Q) (h1:RS ao w0 X0 a1 l_ c1) (h2:RS ar w0 X0 a2 ac c2) :
  Ret Tryz.prog 35 #[.slice a1 l_.length c1,.slice a2 ac.length c2] aJ w0 X0 (fun w X' v=>∃ r,Q r/\∃ cB cA,v=.slice cB r.length cA/\RS tI w X' cB r cA):=by
 unfold VC35 at hm
 replace hm:=hm (h1.sm kr)
 replace hm:=hm (h2.sm kr)
 refine enter Tryz.func35 rfl (vals:=[.slice a1 l_.length c1,.slice a2 ac.length c2]) kr ?_
 intro Z a hS hO hM
 replace h1:=h1.m0 hM
 replace h2:=h2.m0 hM
 refine rPe T hS [] [] fun a hS=>?_
 refine bn ?_
 refine oPe T hS 2 [0,1] [(5,Sl a1 l_ c1),(6,Sl a2 ac c2)] fun a hS=>?_
 obtain ⟨hq,hm⟩:=hm
 refine op1 (call hS kr kr hb64 kr (fun _ _=>rfl) (J7 _ _ l_ ac false a1 c1 a2 c2 hq h1 h2) ?_)
 intro v101 a fh fo hE hp hS
 replace hO:=hO.m2 hE
 replace h1:=h1.m1 hE
 replace h2:=h2.m1 hE
 obtain ⟨dQ,dP,hp,h107⟩:=hp
 obtain ⟨av,hr⟩:∃ r,dR l_ ac false=r:=⟨_,rfl⟩
 replace hm:=hm av hr
 rw [hr] at hp h107
 clear hr
 subst hp
 replace hm:=hm (h107.sm kr)
 refine ePe T hS [5,6,7] [(4,Sl dQ av dP)] fun a hS=>?_
 refine aZ ?_
 exact fin T hS hO (fun c=>c) rfl (r:=[.slice dQ av.length dP]) kr (fun X' hM hC=>⟨av,hm,dQ,dP,rfl,h107.m0 hM⟩)
theorem C35 (J7:S64) (v:∀ (l_:List ab) (ac:List aa),pS l_ ac->VC35 l_ ac (fun r=>r=bX l_ ac)):S35:=by
 intro w X l_ ac a1 c1 a2 c2   hp h1 h2
 refine (W35 J7 w X l_ ac a1 c1 a2 c2   _ (v l_ ac hp) h1 h2).mono ?_
 rintro _ _ _ _ ⟨r,rfl,h⟩
 exact h
theorem W63 (w0) (X0) (a_:ab) (b_:ab) (Q:Bool->Prop) (hm:VC63 a_ b_ Q) :
  Ret Tryz.prog 63 #[.agg #[.int .i64 a_.ah,.int .i64 a_.Kind,.int .i64 a_.aD,.int .i64 a_.End,.int .i64 a_.Result],.agg #[.int .i64 b_.ah,.int .i64 b_.Kind,.int .i64 b_.aD,.int .i64 b_.End,.int .i64 b_.Result]] aJ w0 X0 (fun w X' v=>∃ r,Q r/\v=.bool r):=by
 unfold VC63 at hm
 refine enter Tryz.func63 rfl (vals:=[.agg #[.int .i64 a_.ah,.int .i64 a_.Kind,.int .i64 a_.aD,.int .i64 a_.End,.int .i64 a_.Result],.agg #[.int .i64 b_.ah,.int .i64 b_.Kind,.int .i64 b_.aD,.int .i64 b_.End,.int .i64 b_.Result]]) kr ?_
 intro Z a hS hO hM
 refine rM T hS ⟨[(2,Pt 3 0),(3,Pt 4 0)],[(3,(102,(cP a_))),(4,(102,(cP b_)))]⟩ fun Z a n5 oI hS hE hr=>?_
 replace hO:=hO.m2 hE
 clear hE hr
 refine rP T hS ⟨[(4,B ((decide (a_.End≥0)) && (decide (a_.End < b_.aD))))],[]⟩ (sp:=[8]) fun a hS=>?_
 refine aZ ?_
 exact fin T hS hO (fun c=>c) rfl (r:=[.bool ((decide (a_.End≥0)) && (decide (a_.End < b_.aD)))]) kr (fun X' hM hC=>⟨((decide (a_.End≥0)) && (decide (a_.End < b_.aD))),hm,rfl⟩)
theorem C63 (v:∀ (a_:ab) (b_:ab),VC63 a_ b_ (fun r=>r=bb a_ b_)):S63:=by
 intro w X a_ b_    
 refine (W63 w X a_ b_    _ (v a_ b_)).mono ?_
 rintro _ _ _ _ ⟨r,rfl,h⟩
 exact h
end Go.Proofs.YteahldlmkheleaaGreat
