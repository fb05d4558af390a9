import Derived.Test.YteahldlmkheleaaGreatLWalksS
set_option linter.all false
namespace Go.Proofs.YteahldlmkheleaaGreat
open Go Go.Sv
abbrev zAa0 (oe og i7 dK cD:Nat):Nat->Nat:=fun c=>(bif Nat.beq c 6 then oe else (bif Nat.beq c 4 then og else (bif Nat.beq c 8 then i7 else (bif Nat.beq c 5 then dK else (bif Nat.beq c 1009 then cD else c)))))
abbrev zAa1 (dK cD:Nat):Nat->Nat:=fun c=>(bif Nat.beq c 4 then dK else (bif Nat.beq c 1007 then cD else c))
abbrev zAa2 (i1 i2 i3 i4 m2:Nat):List (Nat × Nat):=[(i1,901),(i2,902),(i3,903),(i4,904),(m2,2002)]
set_option maxHeartbeats 1000000
theorem W21 (w0) (X0) (o_:ah) (a1) (c1) (Q:Bool->Prop) (hm:VC21 o_ Q) (h1:RS az w0 X0 a1 o_.Rows c1) :
  Ret Tryz.prog 21 #[.agg #[.int .i64 o_.ar,.int .i64 o_.aw,.int .i64 o_.aE,.slice a1 o_.Rows.length c1]] aI w0 X0 (fun w X' v=>∃ r,Q r/\v=.bool r):=by
 unfold VC21 at hm
 replace hm:=hm (h1.sm kr)
 refine enter Tryz.func21 rfl (vals:=[.agg #[.int .i64 o_.ar,.int .i64 o_.aw,.int .i64 o_.aE,.slice a1 o_.Rows.length c1]]) kr ?_
 intro Z a hS hO hM
 replace h1:=h1.m0 hM
 refine rM T hS ⟨[(1,Pt 2 0)],[(2,(48,(cO o_ a1 c1)))]⟩ fun Z a nS oy hS hE hr=>?_
 replace hO:=hO.m2 hE
 replace h1:=h1.m1 hE
 clear hE hr
 refine rP T hS ⟨[(2,B (decide ((lN o_.Rows)≤300)))],[]⟩ fun a hS=>?_
 refine aV ?_
 exact fin T hS hO (fun c=>c) rfl (r:=[.bool (decide ((lN o_.Rows)≤300))]) kr (fun X' hM hC=>⟨(decide ((lN o_.Rows)≤300)),hm,rfl⟩)
theorem C21 (v:∀ (o_:ah),VC21 o_ (fun r=>r=gI o_)):S21:=by
 intro w X o_ a1 c1   h1
 refine (W21 w X o_ a1 c1   _ (v o_) h1).mono ?_
 rintro _ _ _ _ ⟨r,rfl,h⟩
 exact h
theorem W81 (w0) (X0) (n_:Int) (top:Int) (Q:Bool->Prop) (hm:VC81 n_ top Q) :
  Ret Tryz.prog 81 #[.int .i64 n_,.int .i64 top] aI w0 X0 (fun w X' v=>∃ r,Q r/\v=.bool r):=by
 unfold VC81 at hm
 refine enter Tryz.func81 rfl (vals:=[.int .i64 n_,.int .i64 top]) kr ?_
 intro Z a hS hO hM
 refine rPe T hS [] [] fun a hS=>?_
 refine rPe T hS [0,1] [(4,B ((decide (n_≥0)) && (decide (n_ < top))))] (sp:=[7]) fun a hS=>?_
 refine aV ?_
 exact fin T hS hO (fun c=>c) rfl (r:=[.bool ((decide (n_≥0)) && (decide (n_ < top)))]) kr (fun X' hM hC=>⟨((decide (n_≥0)) && (decide (n_ < top))),hm,rfl⟩)
theorem C81 (v:∀ (n_:Int) (top:Int),VC81 n_ top (fun r=>r=bV n_ top)):S81:=by
 intro w X n_ top    
 refine (W81 w X n_ top    _ (v n_ top)).mono ?_
 rintro _ _ _ _ ⟨r,rfl,h⟩
 exact h
theorem W107 (w0) (X0) (vals:List Int) (a1) (c1) (Q:Int->Prop) (hm:VC107 vals Q) (h1:RS tI w0 X0 a1 vals c1) :
  Ret Tryz.prog 107 #[.slice a1 vals.length c1] aI w0 X0 (fun w X' v=>∃ r,Q r/\v=.int .i64 r):=by
 unfold VC107 at hm
 replace hm:=hm (h1.sm kr)
 refine enter Tryz.func107 rfl (vals:=[.slice a1 vals.length c1]) kr ?_
 intro Z a hS hO hM
 replace h1:=h1.m0 hM
 refine rPe T hS [] [] fun a hS=>?_
 refine rPe T hS [] [(3,I 0)] fun a hS=>?_
 refine b5 (fun a w=>∃ Z X,VC107_J1 Q/\St Tryz.f107.ntmps ⟨[(3,I 0)],[]⟩ Z a w X/\Old w0 X0 w X) ?_ ?_
 ·refine rPe T hS [0] [(6,Sl a1 vals c1),(7,I (lN vals)),(8,I 0)] fun a hS=>?_
  refine aK ?_
  obtain ⟨I1,μ1,ci,hm⟩:=hm
  refine cg (σ:=Int) (fun s a w=>∃ Z X,I1 s/\St Tryz.f107.ntmps ⟨[(3,I 0),(6,Sl a1 vals c1),(7,I (lN vals)),(8,I s)],[]⟩ Z a w X/\Old w0 X0 w X/\RS tI w X a1 vals c1) (fun s=>μ1 s) (0) ?_ ?_
  ·exact ⟨Z,_,ci,hS.sl _,hO,h1⟩
  rintro bu a qT ⟨Z,lB,hI,hS,hO,h101⟩
  replace hm:=hm bu hI
  clear hI ci
  refine rPe T hS [] [(9,B (decide (bu < (lN vals))))] fun a hS=>?_
  refine bc ?_
  refine aG hS (b:=decide (bu < (lN vals))) kr (fun hb=>?_) fun hb=>?_
  ·replace hm:=hm.1 hb
   refine aJ (bc ?_)
   refine aK ?_
   refine bl ?_
   obtain ⟨hq,hm⟩:=hm
   refine op1 (index (e:=3) (k:=.i64) T hS kr kr kr kr h101 kr kr hq.1 hq.2 ?_)
   intro tv a h104 hS
   refine op1 (dL T hS kr kr kr h104 rfl kr ?_)
   intro v105 a hv hS
   cases hv
   refine ePe T hS [9,10,11] [(5,I (gi vals bu))] fun a hS=>?_
   refine rPe T hS [] [(14,B ((gi vals bu) != 0))] fun a hS=>?_
   refine aG hS (b:=((gi vals bu) != 0)) kr (fun hb=>?_) fun hb=>?_
   ·replace hm:=hm.1 hb
    refine rPe T hS [3,5,6,7,8,14] [(2,I (gi vals bu))] fun a hS=>?_
    refine aV ?_
    exact fin T hS hO (fun c=>c) rfl (r:=[.int .i64 (gi vals bu)]) kr (fun X' hM hC=>⟨(gi vals bu),hm,rfl⟩)
   replace hm:=hm.2 hb
   refine aJ ?_
   refine region (ePe T hS [5,14] [(8,I (wR (bu+1)))] fun a hS=>?_)
   exact ⟨wR (bu+1),⟨Z,_,hm.1,hS.sl _,hO,h101⟩,hm.2⟩
  replace hm:=hm.2 hb
  refine cb (by rfl) ?_
  exact ⟨Z,_,hm,hS.sl _,hO⟩
 rintro a pz ⟨Z,pd,hm,hS,hO⟩
 unfold VC107_J1 at hm
 refine rPe T hS [3] [(2,I 0)] fun a hS=>?_
 refine aV ?_
 exact fin T hS hO (fun c=>c) rfl (r:=[.int .i64 0]) kr (fun X' hM hC=>⟨0,hm,rfl⟩)
theorem C107 (v:∀ (vals:List Int),VC107 vals (fun r=>r=gd vals)):S107:=by
 intro w X vals a1 c1   h1
 refine (W107 w X vals a1 c1   _ (v vals) h1).mono ?_
 rintro _ _ _ _ ⟨r,rfl,h⟩
 exact h
theorem W113 (w0) (X0) (x_:Int) (Q:Bool->Prop) (hm:VC113 x_ Q) :
  Ret Tryz.prog 113 #[.int .i64 x_] aI w0 X0 (fun w X' v=>∃ r,Q r/\v=.bool r):=by
 unfold VC113 at hm
 refine enter Tryz.func113 rfl (vals:=[.int .i64 x_]) kr ?_
 intro Z a hS hO hM
 refine rPe T hS [] [] fun a hS=>?_
 refine rPe T hS [0] [(2,B (x_ != x_))] fun a hS=>?_
 refine aV ?_
 exact fin T hS hO (fun c=>c) rfl (r:=[.bool (x_ != x_)]) kr (fun X' hM hC=>⟨(x_ != x_),hm,rfl⟩)
theorem C113 (v:∀ (x_:Int),VC113 x_ (fun r=>r=eH x_)):S113:=by
 intro w X x_    
 refine (W113 w X x_    _ (v x_)).mono ?_
 rintro _ _ _ _ ⟨r,rfl,h⟩
 exact h
theorem W108 (C3:S113) (w0) (X0) (x_:Int) (y_:Int) (Q:Int->Prop) (hm:VC108 x_ y_ Q) :
  Ret Tryz.prog 108 #[.int .i64 x_,.int .i64 y_] aI w0 X0 (fun w X' v=>∃ r,Q r/\v=.int .i64 r):=by
 unfold VC108 at hm
 refine enter Tryz.func108 rfl (vals:=[.int .i64 x_,.int .i64 y_]) kr ?_
 intro Z a hS hO hM
 refine rPe T hS [] [] fun a hS=>?_
 refine bl ?_
 refine oPe T hS 1 [] [(7,I x_)] fun a hS=>?_
 refine op1 (call hS kr kr hb113 kr (fun _ _=>rfl) (C3 _ _ x_) ?_)
 intro v101 a eX e8 hE hp hS
 replace hO:=hO.m2 hE
 obtain ⟨am,hr⟩:∃ r,eH x_=r:=⟨_,rfl⟩
 replace hm:=hm am hr
 rw [hr] at hp
 clear hr
 subst hp
 refine ePe T hS [7,8] [(5,B am)] fun a hS=>?_
 refine bl ?_
 refine oPe T hS 1 [] [(9,I y_)] fun a hS=>?_
 refine op1 (call hS kr kr hb113 kr (fun _ _=>rfl) (C3 _ _ y_) ?_)
 intro v105 a mD mj hE hp hS
 replace hO:=hO.m2 hE
 obtain ⟨aZ,hr⟩:∃ r,eH y_=r:=⟨_,rfl⟩
 replace hm:=hm aZ hr
 rw [hr] at hp
 clear hr
 subst hp
 refine ePe T hS [9,10] [(6,B aZ)] fun a hS=>?_
 refine bc ?_
 refine rPe T hS [5] [(11,B am)] fun a hS=>?_
 refine aG hS (b:=am) kr (fun hb=>?_) fun hb=>?_
 ·replace hm:=hm.1 hb
  refine bc ?_
  refine rPe T hS [0,1,6,11] [(12,B aZ)] fun a hS=>?_
  refine aG hS (b:=aZ) kr (fun hb=>?_) fun hb=>?_
  ·replace hm:=hm.1 hb
   refine rPe T hS [12] [(4,I 0)] fun a hS=>?_
   refine aV ?_
   exact fin T hS hO (fun c=>c) rfl (r:=[.int .i64 0]) kr (fun X' hM hC=>⟨0,hm,rfl⟩)
  replace hm:=hm.2 hb
  refine aJ ?_
  refine rPe T hS [12] [(4,I (-1))] fun a hS=>?_
  refine aV ?_
  exact fin T hS hO (fun c=>c) rfl (r:=[.int .i64 (-1)]) kr (fun X' hM hC=>⟨(-1),hm,rfl⟩)
 replace hm:=hm.2 hb
 refine aJ (bc ?_)
 refine rPe T hS [6,11] [(13,B aZ)] fun a hS=>?_
 refine aG hS (b:=aZ) kr (fun hb=>?_) fun hb=>?_
 ·replace hm:=hm.1 hb
  refine rPe T hS [0,1,13] [(4,I 1)] fun a hS=>?_
  refine aV ?_
  exact fin T hS hO (fun c=>c) rfl (r:=[.int .i64 1]) kr (fun X' hM hC=>⟨1,hm,rfl⟩)
 replace hm:=hm.2 hb
 refine aJ (bc ?_)
 refine rPe T hS [13] [(16,B (decide (x_ < y_)))] fun a hS=>?_
 refine aG hS (b:=decide (x_ < y_)) kr (fun hb=>?_) fun hb=>?_
 ·replace hm:=hm.1 hb
  refine rPe T hS [0,1,16] [(4,I (-1))] fun a hS=>?_
  refine aV ?_
  exact fin T hS hO (fun c=>c) rfl (r:=[.int .i64 (-1)]) kr (fun X' hM hC=>⟨(-1),hm,rfl⟩)
 replace hm:=hm.2 hb
 refine aJ (bc ?_)
 refine rPe T hS [0,1,16] [(19,B (decide (x_ > y_)))] fun a hS=>?_
 refine aG hS (b:=decide (x_ > y_)) kr (fun hb=>?_) fun hb=>?_
 ·replace hm:=hm.1 hb
  refine rPe T hS [19] [(4,I 1)] fun a hS=>?_
  refine aV ?_
  exact fin T hS hO (fun c=>c) rfl (r:=[.int .i64 1]) kr (fun X' hM hC=>⟨1,hm,rfl⟩)
 replace hm:=hm.2 hb
 refine aJ ?_
 refine rPe T hS [19] [(4,I 0)] fun a hS=>?_
 refine aV ?_
 exact fin T hS hO (fun c=>c) rfl (r:=[.int .i64 0]) kr (fun X' hM hC=>⟨0,hm,rfl⟩)
theorem C108 (C3:S113) (v:∀ (x_:Int) (y_:Int),VC108 x_ y_ (fun r=>r=dk x_ y_)):S108:=by
 intro w X x_ y_    
 refine (W108 C3 w X x_ y_    _ (v x_ y_)).mono ?_
 rintro _ _ _ _ ⟨r,rfl,h⟩
 exact h
theorem W96 (FG:S107) (C4:S108) (w0) (X0) (a_:a8) (b_:a8) (Q:Int->Prop) (hm:VC96 a_ b_ Q) :
  Ret Tryz.prog 96 #[.agg #[.int .i64 a_.State,.int .i64 a_.Kind,.int .i64 a_.Next,.int .i64 a_.Result],.agg #[.int .i64 b_.State,.int .i64 b_.Kind,.int .i64 b_.Next,.int .i64 b_.Result]] aI w0 X0 (fun w X' v=>∃ r,Q r/\v=.int .i64 r):=by
 unfold VC96 at hm
 refine enter Tryz.func96 rfl (vals:=[.agg #[.int .i64 a_.State,.int .i64 a_.Kind,.int .i64 a_.Next,.int .i64 a_.Result],.agg #[.int .i64 b_.State,.int .i64 b_.Kind,.int .i64 b_.Next,.int .i64 b_.Result]]) kr ?_
 intro Z a hS hO hM
 refine rM T hS ⟨[(2,Pt 3 0),(3,Pt 4 0)],[(3,(107,(cR a_))),(4,(107,(cR b_)))]⟩ fun Z a tD zL hS hE hr=>?_
 replace hO:=hO.m2 hE
 clear hE hr
 refine dw [3,4] mixed hS ?_
 intro nS oy hS hE hD hH
 replace hO:=hO.m2 hE
 refine tke T [0,2,5,7,1,3,6,8] [3,4] hS hH #[true,true,true,true,false,true,true,true,true,false,false,false,false] 5 [2,3] [(6,I a_.State),(8,I b_.State),(11,I a_.Kind),(13,I b_.Kind)] fun a hS=>?_
 refine only 4 kr (by rfl) (call hS kr kr hb108 kr (fun _ _=>rfl) (C4 _ _ a_.State b_.State) ?_)
 intro v103 a yl ox hE hp hS
 replace hO:=hO.m2 hE
 replace hD:=hD.ev hE rfl
 obtain ⟨f5,hr⟩:∃ r,dk a_.State b_.State=r:=⟨_,rfl⟩
 replace hm:=hm f5 hr
 rw [hr] at hp
 clear hr
 subst hp
 replace hS:=hS.sle [] [(9,I f5)]
 refine c8 (bJ.of hS (bks:=[3,4]) kr hD) ?_
 intro hH
 refine only 9 kr (by rfl) (call hS kr kr hb108 kr (fun _ _=>rfl) (C4 _ _ a_.Kind b_.Kind) ?_)
 intro v107 a E4 Ca hE hp hS
 replace hO:=hO.m2 hE
 replace hD:=hD.ev hE rfl
 obtain ⟨eZ,hr⟩:∃ r,dk a_.Kind b_.Kind=r:=⟨_,rfl⟩
 replace hm:=hm eZ hr
 rw [hr] at hp
 clear hr
 subst hp
 replace hS:=hS.sle [] [(14,I eZ)]
 refine c8 (bJ.of hS (bks:=[3,4]) kr hD) ?_
 intro hH
 refine only 10 kr (by rfl) (lit (E:=3) (col:=0) (T:=tI) (vals:=[.int .i64 f5,.int .i64 eZ]) (ys:=[f5,eZ]) T hS kr kr kr kr (by exact ⟨rfl,rfl,trivial⟩) rfl kr kr kr kr ?_)
 intro b111 a yk qL hE h114 hN hS
 clear hN
 replace hO:=hO.m2 hE
 replace hD:=hD.ev hE rfl
 replace h114:=h114.rs0
 refine c8 (bJ.of hS (bks:=[3,4]) kr hD) ?_
 intro hH
 refine only 11 kr (by rfl) (call hS kr kr hb107 kr (fun _ _=>rfl) (FG _ _ [f5,eZ] (some ⟨b111,0,none⟩) 2 h114) ?_)
 intro v115 a vA zM hE hp hS
 replace hO:=hO.m2 hE
 replace hD:=hD.ev hE rfl
 replace h114:=h114.m1 hE
 obtain ⟨kV,hr⟩:∃ r,gd [f5,eZ]=r:=⟨_,rfl⟩
 replace hm:=hm kV hr
 rw [hr] at hp
 clear hr
 subst hp
 replace hS:=hS.sle [] [(16,I kV)]
 refine c8 (bJ.of hS (bks:=[3,4]) kr hD) ?_
 intro hH
 refine tke T [12] [3,4] hS hH (tts 13) 0 [6,8,11,13,9,14,15,16] [(4,I kV)] fun a hS=>?_
 refine aU kr ?_
 replace hS:=hS.sl ⟨[(4,I kV)],[]⟩
 refine aV ?_
 exact fin T hS hO (fun c=>c) rfl (r:=[.int .i64 kV]) kr (fun X' hM hC=>⟨kV,hm,rfl⟩)
theorem C96 (FG:S107) (C4:S108) (v:∀ (a_:a8) (b_:a8),VC96 a_ b_ (fun r=>r=fX a_ b_)):S96:=by
 intro w X a_ b_    
 refine (W96 FG C4 w X a_ b_    _ (v a_ b_)).mono ?_
 rintro _ _ _ _ ⟨r,rfl,h⟩
 exact h
theorem W82 (zQ:S81) (Kc:S96) (w0) (X0) (o_:ah) (i_:Int) (a1) (c1) (Q:Int->Prop) (hm:VC82 o_ i_ Q) (h1:RS az w0 X0 a1 o_.Rows c1) :
  Ret Tryz.prog 82 #[.agg #[.int .i64 o_.ar,.int .i64 o_.aw,.int .i64 o_.aE,.slice a1 o_.Rows.length c1],.int .i64 i_] aI w0 X0 (fun w X' v=>∃ r,Q r/\v=.int .i64 r):=by
 unfold VC82 at hm
 replace hm:=hm (h1.sm kr)
 refine enter Tryz.func82 rfl (vals:=[.agg #[.int .i64 o_.ar,.int .i64 o_.aw,.int .i64 o_.aE,.slice a1 o_.Rows.length c1],.int .i64 i_]) kr ?_
 intro Z a hS hO hM
 replace h1:=h1.m0 hM
 refine rM T hS ⟨[(1,I i_),(2,Pt 3 0)],[(3,(48,(cO o_ a1 c1)))]⟩ fun Z a Ad DL hS hE hr=>?_
 replace hO:=hO.m2 hE
 replace h1:=h1.m1 hE
 clear hE hr
 refine bl ?_
 refine oPe T hS 3 [] [(7,Sl a1 o_.Rows c1),(8,I i_)] fun a hS=>?_
 obtain ⟨hq,hm⟩:=hm
 refine op1 (index (e:=107) (k:=.i64) T hS kr kr kr kr h1 kr kr hq.1 hq.2 ?_)
 intro Jd a h102 hS
 refine op1 (eD T hS kr kr kr h102 kr kr ?_)
 intro v103 a hv hS
 subst hv
 refine eM T hS ⟨[(1,I i_),(2,Pt 3 0),(5,Pt 6 0)],[(3,(48,(cO o_ a1 c1))),(6,(107,(cR (gi o_.Rows i_))))]⟩ fun Z a r8 vi hS hE hr=>?_
 replace hO:=hO.m2 hE
 replace h1:=h1.m1 hE
 clear hE hr
 refine bc ?_
 refine aK ?_
 refine b5 (fun a w=>∃ (Z:Nat->Nat) (X:Nat->Nat) (gW:Bool),VC82_J1 o_ i_ Q gW/\St Tryz.f82.ntmps ⟨[(1,I i_),(2,Pt 3 0),(5,Pt 6 0),(11,B gW)],[(3,(48,(cO o_ a1 c1))),(6,(107,(cR (gi o_.Rows i_))))]⟩ Z a w X/\Old w0 X0 w X/\RS az w X a1 o_.Rows c1) ?_ ?_
 ·refine region ?_
  refine oPe T hS 4 [] [(13,I ((gi o_.Rows i_).State)),(15,I o_.ar)] fun a hS=>?_
  refine op1 (call hS kr kr hb81 kr (fun _ _=>rfl) (zQ _ _ ((gi o_.Rows i_).State) o_.ar) ?_)
  intro v126 a tB B7 hE hp hS
  replace hO:=hO.m2 hE
  replace h1:=h1.m1 hE
  obtain ⟨vU,hr⟩:∃ r,bV ((gi o_.Rows i_).State) o_.ar=r:=⟨_,rfl⟩
  replace hm:=hm vU hr
  rw [hr] at hp
  clear hr
  subst hp
  refine oPe T hS 2 [13,15,16] [(18,B (!vU))] fun a hS=>?_
  rcases bft (!vU) with hb | hb
  ·replace hS:=hS.lit (t:=18) kr hb
   replace hm:=hm.1 hb
   refine ePe T hS [18] [(11,B true)] fun a hS=>?_
   exact ⟨Z,_,true,hm,hS.sl _,hO,h1⟩
  replace hS:=hS.lit (t:=18) kr hb
  replace hm:=hm.2 hb
  refine oPe T hS 4 [] [(20,I ((gi o_.Rows i_).Next)),(22,I o_.ar)] fun a hS=>?_
  refine op1 (call hS kr kr hb81 kr (fun _ _=>rfl) (zQ _ _ ((gi o_.Rows i_).Next) o_.ar) ?_)
  intro v130 a oW ow hE hp hS
  replace hO:=hO.m2 hE
  replace h1:=h1.m1 hE
  obtain ⟨fP,hr⟩:∃ r,bV ((gi o_.Rows i_).Next) o_.ar=r:=⟨_,rfl⟩
  replace hm:=hm fP hr
  rw [hr] at hp
  clear hr
  subst hp
  refine ePe T hS [18,20,22,23] [(11,B (!fP))] fun a hS=>?_
  exact ⟨Z,_,(!fP),hm,hS.sl _,hO,h1⟩
 rintro a CC ⟨Z,B5,gW,hm,hS,hO,h105⟩
 unfold VC82_J1 at hm
 refine aG hS (b:=gW) kr (fun hb=>?_) fun hb=>?_
 ·replace hm:=hm.1 hb
  refine rP T hS ⟨[(4,I 30)],[]⟩ fun a hS=>?_
  refine aV ?_
  exact fin T hS hO (fun c=>c) rfl (r:=[.int .i64 30]) kr (fun X' hM hC=>⟨30,hm,rfl⟩)
 replace hm:=hm.2 hb
 refine bl ?_
 refine oPe T hS 4 [11] [(28,I ((gi o_.Rows i_).Kind)),(30,I o_.aw)] fun a hS=>?_
 refine op1 (call hS kr kr hb81 kr (fun _ _=>rfl) (zQ _ _ ((gi o_.Rows i_).Kind) o_.aw) ?_)
 intro v106 a qT pd hE hp hS
 replace hO:=hO.m2 hE
 replace h105:=h105.m1 hE
 obtain ⟨iD,hr⟩:∃ r,bV ((gi o_.Rows i_).Kind) o_.aw=r:=⟨_,rfl⟩
 replace hm:=hm iD hr
 rw [hr] at hp
 clear hr
 subst hp
 refine ePe T hS [28,30,31] [(26,B (!iD))] fun a hS=>?_
 refine aG hS (b:=(!iD)) kr (fun hb=>?_) fun hb=>?_
 ·replace hm:=hm.1 hb
  refine rP T hS ⟨[(4,I 31)],[]⟩ fun a hS=>?_
  refine aV ?_
  exact fin T hS hO (fun c=>c) rfl (r:=[.int .i64 31]) kr (fun X' hM hC=>⟨31,hm,rfl⟩)
 replace hm:=hm.2 hb
 refine bl ?_
 refine oPe T hS 2 [26] [(35,I ((gi o_.Rows i_).Result))] fun a hS=>?_
 refine op1 (call hS kr kr hb81 kr (fun _ _=>rfl) (zQ _ _ ((gi o_.Rows i_).Result) 1000001) ?_)
 intro v110 a CD tt hE hp hS
 replace hO:=hO.m2 hE
 replace h105:=h105.m1 hE
 obtain ⟨fB,hr⟩:∃ r,bV ((gi o_.Rows i_).Result) 1000001=r:=⟨_,rfl⟩
 replace hm:=hm fB hr
 rw [hr] at hp
 clear hr
 subst hp
 refine ePe T hS [35,36] [(33,B (!fB))] fun a hS=>?_
 refine aG hS (b:=(!fB)) kr (fun hb=>?_) fun hb=>?_
 ·replace hm:=hm.1 hb
  refine rP T hS ⟨[(4,I 7)],[]⟩ fun a hS=>?_
  refine aV ?_
  exact fin T hS hO (fun c=>c) rfl (r:=[.int .i64 7]) kr (fun X' hM hC=>⟨7,hm,rfl⟩)
 replace hm:=hm.2 hb
 refine b5 (fun a w=>∃ (Z:Nat->Nat) (X:Nat->Nat) (ic:Bool),VC82_J2 Q ic/\St Tryz.f82.ntmps ⟨[(38,B ic)],[]⟩ Z a w X/\Old w0 X0 w X) ?_ ?_
 ·refine hJ [3,6] mixed hS ?_
  intro oX tr hS hE hD hH
  replace hO:=hO.m2 hE
  replace h105:=h105.m1 hE
  refine tke T [0,1,2] [3,6] hS hH #[true,true,true,false,false,false,false,false,false,false,false,false,false,false] 11 [] [(41,B (decide (i_ > 0)))] fun a hS=>?_
  rcases bft (decide (i_ > 0)) with hb | hb
  ·replace hS:=hS.lit (t:=41) kr hb
   replace hm:=hm.1 hb
   refine tke T [3,5,9,4,6] [3,6] hS hH #[true,true,true,true,true,true,true,false,false,true,false,false,false,false] 6 [1,2,5] [(43,Sl a1 o_.Rows c1),(45,I (wR (i_ - 1))),(48,V (.agg #[.int .i64 ((gi o_.Rows i_).State),.int .i64 ((gi o_.Rows i_).Kind),.int .i64 ((gi o_.Rows i_).Next),.int .i64 ((gi o_.Rows i_).Result)]))] fun a hS=>?_
   obtain ⟨hq,hm⟩:=hm
   refine db (e:=107) (k:=.i64) T 7 hS kr kr kr (by rfl) kr hH kr kr h105 kr kr hq.1 hq.2 ?_
   intro MJ a h118 hS
   have HX:=h118.here
   refine jJ T 8 hS kr kr kr (by rfl) kr hH kr h118 HX kr kr ?_
   intro v119 a hv hS
   subst hv
   refine only 10 kr (by rfl) (call hS kr kr hb96 kr (fun _ _=>rfl) (Kc _ _ (gi o_.Rows (wR (i_ - 1))) (gi o_.Rows i_)) ?_)
   intro v120 a vz B8 hE hp hS
   replace hO:=hO.m2 hE
   replace hD:=hD.ev hE rfl
   replace h105:=h105.m1 hE
   replace h118:=h118.m1 hE
   obtain ⟨t8,hr⟩:∃ r,fX (gi o_.Rows (wR (i_ - 1))) (gi o_.Rows i_)=r:=⟨_,rfl⟩
   replace hm:=hm t8 hr
   rw [hr] at hp
   clear hr
   subst hp
   replace hS:=hS.sle [] [(49,I t8)]
   refine c8 (bJ.of hS (bks:=[3,6]) kr hD) ?_
   intro hH
   refine tke T [11,12,13] [3,6] hS hH (tts 14) 0 [41,43,45,48,46,47,49] [(38,B (decide (t8≥0)))] fun a hS=>?_
   refine aU kr ?_
   replace hS:=hS.sl ⟨[(38,B (decide (t8≥0)))],[]⟩
   exact ⟨Z,_,decide (t8≥0),hm,hS.sl _,hO⟩
  replace hS:=hS.lit (t:=41) kr hb
  replace hm:=hm.2 hb
  refine tke T [3,5,9,4,6,7,8,10,11,12,13] [3,6] hS hH (tts 14) 0 [1,2,5,41] [(38,B false)] fun a hS=>?_
  refine aU kr ?_
  replace hS:=hS.sl ⟨[(38,B false)],[]⟩
  exact ⟨Z,_,false,hm,hS.sl _,hO⟩
 rintro a yj ⟨Z,wJ,ic,hm,hS,hO⟩
 unfold VC82_J2 at hm
 refine aG hS (b:=ic) kr (fun hb=>?_) fun hb=>?_
 ·replace hm:=hm.1 hb
  refine rPe T hS [38] [(4,I 32)] fun a hS=>?_
  refine aV ?_
  exact fin T hS hO (fun c=>c) rfl (r:=[.int .i64 32]) kr (fun X' hM hC=>⟨32,hm,rfl⟩)
 replace hm:=hm.2 hb
 refine aJ ?_
 refine rPe T hS [38] [(4,I 0)] fun a hS=>?_
 refine aV ?_
 exact fin T hS hO (fun c=>c) rfl (r:=[.int .i64 0]) kr (fun X' hM hC=>⟨0,hm,rfl⟩)
theorem C82 (zQ:S81) (Kc:S96) (v:∀ (o_:ah) (i_:Int),preRow o_ i_->VC82 o_ i_ (fun r=>r=g7 o_ i_)):S82:=by
 intro w X o_ i_ a1 c1   hp h1
 refine (W82 zQ Kc w X o_ i_ a1 c1   _ (v o_ i_ hp) h1).mono ?_
 rintro _ _ _ _ ⟨r,rfl,h⟩
 exact h
theorem W53 (zQ:S81) (Kn:S82) (w0) (X0) (o_:ah) (a1) (c1) (Q:Int × Int->Prop) (hm:VC53 o_ Q) (h1:RS az w0 X0 a1 o_.Rows c1) :
  Ret Tryz.prog 53 #[.agg #[.int .i64 o_.ar,.int .i64 o_.aw,.int .i64 o_.aE,.slice a1 o_.Rows.length c1]] aI w0 X0 (fun w X' v=>∃ r,Q r/\v=.tuple #[.int .i64 r.1,.int .i64 r.2]):=by
 unfold VC53 at hm
 replace hm:=hm (h1.sm kr)
 refine enter Tryz.func53 rfl (vals:=[.agg #[.int .i64 o_.ar,.int .i64 o_.aw,.int .i64 o_.aE,.slice a1 o_.Rows.length c1]]) kr ?_
 intro Z a hS hO hM
 replace h1:=h1.m0 hM
 refine rM T hS ⟨[(1,Pt 2 0)],[(2,(48,(cO o_ a1 c1)))]⟩ fun Z a qS q7 hS hE hr=>?_
 replace hO:=hO.m2 hE
 replace h1:=h1.m1 hE
 clear hE hr
 refine bc ?_
 refine b5 (fun a w=>∃ (Z:Nat->Nat) (X:Nat->Nat) (bv:Bool),VC53_J1 o_ Q bv/\St Tryz.f53.ntmps ⟨[(1,Pt 2 0),(25,B bv)],[(2,(48,(cO o_ a1 c1)))]⟩ Z a w X/\Old w0 X0 w X/\RS az w X a1 o_.Rows c1) ?_ ?_
 ·refine region ?_
  refine oPe T hS 3 [] [(8,I (wR (o_.ar - 1)))] fun a hS=>?_
  refine op1 (call hS kr kr hb81 kr (fun _ _=>rfl) (zQ _ _ (wR (o_.ar - 1)) 32) ?_)
  intro v114 a oX tr hE hp hS
  replace hO:=hO.m2 hE
  replace h1:=h1.m1 hE
  obtain ⟨d6,hr⟩:∃ r,bV (wR (o_.ar - 1)) 32=r:=⟨_,rfl⟩
  replace hm:=hm d6 hr
  rw [hr] at hp
  clear hr
  subst hp
  refine oPe T hS 2 [8,9] [(11,B (!d6))] fun a hS=>?_
  rcases bft (!d6) with hb | hb
  ·replace hS:=hS.lit (t:=11) kr hb
   replace hm:=hm.1 hb
   refine ePe T hS [11] [(25,B true)] fun a hS=>?_
   exact ⟨Z,_,true,hm,hS.sl _,hO,h1⟩
  replace hS:=hS.lit (t:=11) kr hb
  replace hm:=hm.2 hb
  refine oPe T hS 3 [] [(14,I (wR (o_.aw - 1)))] fun a hS=>?_
  refine op1 (call hS kr kr hb81 kr (fun _ _=>rfl) (zQ _ _ (wR (o_.aw - 1)) 64) ?_)
  intro v118 a tD zL hE hp hS
  replace hO:=hO.m2 hE
  replace h1:=h1.m1 hE
  obtain ⟨d7,hr⟩:∃ r,bV (wR (o_.aw - 1)) 64=r:=⟨_,rfl⟩
  replace hm:=hm d7 hr
  rw [hr] at hp
  clear hr
  subst hp
  refine oPe T hS 3 [11,14,15] [(18,B (!d7))] fun a hS=>?_
  rcases bft (!d7) with hb | hb
  ·replace hS:=hS.lit (t:=18) kr hb
   replace hm:=hm.1 hb
   refine ePe T hS [18] [(25,B true)] fun a hS=>?_
   exact ⟨Z,_,true,hm,hS.sl _,hO,h1⟩
  replace hS:=hS.lit (t:=18) kr hb
  replace hm:=hm.2 hb
  refine oPe T hS 4 [] [(20,I o_.aE),(22,I o_.ar)] fun a hS=>?_
  refine op1 (call hS kr kr hb81 kr (fun _ _=>rfl) (zQ _ _ o_.aE o_.ar) ?_)
  intro v122 a EZ wJ hE hp hS
  replace hO:=hO.m2 hE
  replace h1:=h1.m1 hE
  obtain ⟨yG,hr⟩:∃ r,bV o_.aE o_.ar=r:=⟨_,rfl⟩
  replace hm:=hm yG hr
  rw [hr] at hp
  clear hr
  subst hp
  refine ePe T hS [18,20,22,23] [(25,B (!yG))] fun a hS=>?_
  exact ⟨Z,_,(!yG),hm,hS.sl _,hO,h1⟩
 rintro a tB ⟨Z,wI,bv,hm,hS,hO,h102⟩
 unfold VC53_J1 at hm
 refine aG hS (b:=bv) kr (fun hb=>?_) fun hb=>?_
 ·replace hm:=hm.1 hb
  refine rP T hS ⟨[(2,I (-1)),(3,I 2)],[]⟩ fun a hS=>?_
  refine aV ?_
  exact fin T hS hO (fun c=>c) rfl (r:=[.int .i64 (-1),.int .i64 2]) kr (fun X' hM hC=>⟨((-1),2),hm,rfl⟩)
 replace hm:=hm.2 hb
 refine aJ ?_
 refine b5 (fun a w=>∃ Z X,VC53_J2 o_ Q/\St Tryz.f53.ntmps ⟨[(1,Pt 2 0)],[(2,(48,(cO o_ a1 c1)))]⟩ Z a w X/\Old w0 X0 w X/\RS az w X a1 o_.Rows c1) ?_ ?_
 ·refine rPe T hS [25] [(28,I (lN o_.Rows)),(29,I 0)] fun a hS=>?_
  refine aK ?_
  obtain ⟨I1,μ1,ci,hm⟩:=hm
  refine cg (σ:=Int) (fun s a w=>∃ Z X,I1 s/\St Tryz.f53.ntmps ⟨[(1,Pt 2 0),(28,I (lN o_.Rows)),(29,I s)],[(2,(48,(cO o_ a1 c1)))]⟩ Z a w X/\Old w0 X0 w X/\RS az w X a1 o_.Rows c1) (fun s=>μ1 s) (0) ?_ ?_
  ·exact ⟨Z,_,ci,hS.sl _,hO,h102⟩
  rintro gW a CD ⟨Z,q8,hI,hS,hO,h105⟩
  replace hm:=hm gW hI
  clear hI ci
  refine rPe T hS [] [(30,B (decide (gW < (lN o_.Rows))))] fun a hS=>?_
  refine bc ?_
  refine aG hS (b:=decide (gW < (lN o_.Rows))) kr (fun hb=>?_) fun hb=>?_
  ·replace hm:=hm.1 hb
   refine aJ (bc ?_)
   refine aK ?_
   refine rPe T hS [30] [(4,I gW)] fun a hS=>?_
   refine bl ?_
   refine oPe T hS 2 [] [(32,V (.agg #[.int .i64 o_.ar,.int .i64 o_.aw,.int .i64 o_.aE,.slice a1 o_.Rows.length c1])),(33,I gW)] fun a hS=>?_
   obtain ⟨hq,hm⟩:=hm
   refine op1 (call hS kr kr hb82 kr (fun _ _=>rfl) (Kn _ _ o_ gW a1 c1 hq h105) ?_)
   intro v106 a qT pd hE hp hS
   replace hO:=hO.m2 hE
   replace h105:=h105.m1 hE
   obtain ⟨iD,hr⟩:∃ r,g7 o_ gW=r:=⟨_,rfl⟩
   replace hm:=hm iD hr
   rw [hr] at hp
   clear hr
   subst hp
   refine ePe T hS [32,33,34] [(5,I iD)] fun a hS=>?_
   refine rPe T hS [] [(36,B (iD != 0))] fun a hS=>?_
   refine aG hS (b:=(iD != 0)) kr (fun hb=>?_) fun hb=>?_
   ·replace hm:=hm.1 hb
    refine rP T hS ⟨[(2,I gW),(3,I iD)],[]⟩ fun a hS=>?_
    refine aV ?_
    exact fin T hS hO (fun c=>c) rfl (r:=[.int .i64 gW,.int .i64 iD]) kr (fun X' hM hC=>⟨(gW,iD),hm,rfl⟩)
   replace hm:=hm.2 hb
   refine aJ ?_
   refine region (ePe T hS [4,5,36] [(29,I (wR (gW+1)))] fun a hS=>?_)
   exact ⟨wR (gW+1),⟨Z,_,hm.1,hS.sl _,hO,h105⟩,hm.2⟩
  replace hm:=hm.2 hb
  refine cb (by rfl) ?_
  exact ⟨Z,_,hm,hS.sl _,hO,h105⟩
 rintro a tE ⟨Z,tt,hm,hS,hO,h103⟩
 unfold VC53_J2 at hm
 refine rP T hS ⟨[(2,I (lN o_.Rows)),(3,I 0)],[]⟩ fun a hS=>?_
 refine aV ?_
 exact fin T hS hO (fun c=>c) rfl (r:=[.int .i64 (lN o_.Rows),.int .i64 0]) kr (fun X' hM hC=>⟨((lN o_.Rows),0),hm,rfl⟩)
theorem C53 (zQ:S81) (Kn:S82) (v:∀ (o_:ah),jW o_->VC53 o_ (fun r=>r=br o_)):S53:=by
 intro w X o_ a1 c1   hp h1
 refine (W53 zQ Kn w X o_ a1 c1   _ (v o_ hp) h1).mono ?_
 rintro _ _ _ _ ⟨r,rfl,h⟩
 exact h
theorem W85 (sR:S53) (w0) (X0) (o_:ah) (state:Int) (a1) (c1) (Q:Int->Prop) (hm:VC85 o_ state Q) (h1:RS az w0 X0 a1 o_.Rows c1) :
  Ret Tryz.prog 85 #[.agg #[.int .i64 o_.ar,.int .i64 o_.aw,.int .i64 o_.aE,.slice a1 o_.Rows.length c1],.int .i64 state] aI w0 X0 (fun w X' v=>∃ r,Q r/\v=.int .i64 r):=by
 unfold VC85 at hm
 replace hm:=hm (h1.sm kr)
 refine enter Tryz.func85 rfl (vals:=[.agg #[.int .i64 o_.ar,.int .i64 o_.aw,.int .i64 o_.aE,.slice a1 o_.Rows.length c1],.int .i64 state]) kr ?_
 intro Z a hS hO hM
 replace h1:=h1.m0 hM
 refine rM T hS ⟨[(1,I state),(2,Pt 3 0)],[(3,(48,(cO o_ a1 c1)))]⟩ fun Z a mE lB hS hE hr=>?_
 replace hO:=hO.m2 hE
 replace h1:=h1.m1 hE
 clear hE hr
 refine bc ?_
 refine bl ?_
 refine oPe T hS 1 [] [(8,V (.agg #[.int .i64 o_.ar,.int .i64 o_.aw,.int .i64 o_.aE,.slice a1 o_.Rows.length c1]))] fun a hS=>?_
 obtain ⟨hq,hm⟩:=hm
 refine op1 (call hS kr kr hb53 kr (fun _ _=>rfl) (sR _ _ o_ a1 c1 hq h1) ?_)
 intro v101 a eX e8 hE hp hS
 replace hO:=hO.m2 hE
 replace h1:=h1.m1 hE
 obtain ⟨am,hr⟩:∃ r,br o_=r:=⟨_,rfl⟩
 replace hm:=hm am hr
 rw [hr] at hp
 clear hr
 subst hp
 refine ePe T hS [8,9] [(6,I am.2)] fun a hS=>?_
 refine rPe T hS [6] [(13,B (am.2 != 0))] fun a hS=>?_
 refine aG hS (b:=(am.2 != 0)) kr (fun hb=>?_) fun hb=>?_
 ·replace hm:=hm.1 hb
  refine rP T hS ⟨[(4,I 2)],[]⟩ fun a hS=>?_
  refine aV ?_
  exact fin T hS hO (fun c=>c) rfl (r:=[.int .i64 2]) kr (fun X' hM hC=>⟨2,hm,rfl⟩)
 replace hm:=hm.2 hb
 refine aJ (bc ?_)
 refine rP T hS ⟨[(21,B ((decide (state < 0)) || (decide (state≥o_.ar))))],[]⟩ (sp:=[16]) fun a hS=>?_
 refine aG hS (b:=((decide (state < 0)) || (decide (state≥o_.ar)))) kr (fun hb=>?_) fun hb=>?_
 ·replace hm:=hm.1 hb
  refine rPe T hS [21] [(4,I 30)] fun a hS=>?_
  refine aV ?_
  exact fin T hS hO (fun c=>c) rfl (r:=[.int .i64 30]) kr (fun X' hM hC=>⟨30,hm,rfl⟩)
 replace hm:=hm.2 hb
 refine aJ ?_
 refine rPe T hS [21] [(4,I 0)] fun a hS=>?_
 refine aV ?_
 exact fin T hS hO (fun c=>c) rfl (r:=[.int .i64 0]) kr (fun X' hM hC=>⟨0,hm,rfl⟩)
theorem C85 (sR:S53) (v:∀ (o_:ah) (state:Int),xd o_ state->VC85 o_ state (fun r=>r=fg o_ state)):S85:=by
 intro w X o_ state a1 c1   hp h1
 refine (W85 sR w X o_ state a1 c1   _ (v o_ state hp) h1).mono ?_
 rintro _ _ _ _ ⟨r,rfl,h⟩
 exact h
theorem W86 (w0) (X0) (o_:ah) (l_:List ab) (state:Int) (a1) (c1) (a2) (c2) (cD) (dK) (i7) (og) (oe) (Q:(List ab) × (List (Int × Int)) × ah × Int->Prop) (hm:VC86 o_ l_ state Q) (h1:RS az w0 X0 a1 o_.Rows c1) (h2:RS aq w0 X0 a2 l_ c2) :
  Ret Tryz.prog 86 #[.agg #[.int .i64 o_.ar,.int .i64 o_.aw,.int .i64 o_.aE,.slice a1 o_.Rows.length c1],.slice a2 l_.length c2,.int .i64 state] aI w0 X0 (fun w X' v=>∃ r,Q r/\∃ co cn G9 oE oD tU He Hd Hc,v=.func (.func 97) #[] #[.pointer (some ⟨tU,0,none⟩),.pointer (some ⟨He,0,none⟩),.pointer (some ⟨Hd,0,none⟩),.pointer (some ⟨Hc,0,none⟩)]/\RS aq w X' co r.1 cn/\RS az w X' oE r.2.2.1.Rows oD/\Cell w X' tU dK 42 [.slice co r.1.length cn]/\Cell w X' He i7 113 [.map (some G9)]/\OM kI tI false w X' cD G9 r.2.1/\Cell w X' Hd og 48 [.int .i64 r.2.2.1.ar,.int .i64 r.2.2.1.aw,.int .i64 r.2.2.1.aE,.slice oE r.2.2.1.Rows.length oD]/\Cell w X' Hc oe 3 [.int .i64 r.2.2.2]):=by
 unfold VC86 at hm
 replace hm:=hm (h1.sm kr)
 replace hm:=hm (h2.sm kr)
 refine enter Tryz.func86 rfl (vals:=[.agg #[.int .i64 o_.ar,.int .i64 o_.aw,.int .i64 o_.aE,.slice a1 o_.Rows.length c1],.slice a2 l_.length c2,.int .i64 state]) kr ?_
 intro Z a hS hO hM
 replace h1:=h1.m0 hM
 replace h2:=h2.m0 hM
 refine rM T hS ⟨[(3,Pt 4 0),(4,Pt 5 0),(5,Pt 6 0)],[(4,(48,(cO o_ a1 c1))),(5,(42,[Sl a2 l_ c2])),(6,(3,[I state]))]⟩ fun Z a qT pd hS hE hr=>?_
 replace hO:=hO.m2 hE
 replace h1:=h1.m1 hE
 replace h2:=h2.m1 hE
 clear hE hr
 refine bl ?_
 refine op1 (oH kI tI false 1009 hS kr kr ?_)
 intro dX a eX e8 hE h104 hS
 replace hO:=hO.m2 hE
 replace h1:=h1.m1 hE
 replace h2:=h2.m1 hE
 refine eM T hS ⟨[(3,Pt 4 0),(4,Pt 5 0),(5,Pt 6 0),(7,Pt 8 0)],[(4,(48,(cO o_ a1 c1))),(5,(42,[Sl a2 l_ c2])),(6,(3,[I state])),(8,(113,[V (.map (some dX))]))]⟩ fun Z a mE lB hS hE hr=>?_
 replace hO:=hO.m2 hE
 replace h1:=h1.m1 hE
 replace h2:=h2.m1 hE
 replace h104:=h104.m2 hE
 clear hE hr
 refine rPe T hS [3,4,5,7] [(6,.f (.func 97) [] [.p 5 0,.p 8 0,.p 4 0,.p 6 0])] fun a hS=>?_
 refine aV ?_
 exact fin T hS hO (zAa0 oe og i7 dK cD) rfl (r:=[.func (.func 97) #[] #[.pointer (some ⟨Z 5,0,none⟩),.pointer (some ⟨Z 8,0,none⟩),.pointer (some ⟨Z 4,0,none⟩),.pointer (some ⟨Z 6,0,none⟩)]]) kr (fun X' hM hC=>⟨(l_,([]:List (Int × Int)),o_,state),hm,a2,c2,dX,a1,c1,(Z 5),(Z 8),(Z 4),(Z 6),rfl,h2.m0 hM,h1.m0 hM,((hS.cell (id:=5) (t:=42) (cs:=[Sl a2 l_ c2]) kr).out (f:=(zAa0 oe og i7 dK cD)) hC kr kr rfl),((hS.cell (id:=8) (t:=113) (cs:=[V (.map (some dX))]) kr).out (f:=(zAa0 oe og i7 dK cD)) hC kr kr rfl),(h104.out (f:=(zAa0 oe og i7 dK cD)) hM hC kr kr),((hS.cell (id:=4) (t:=48) (cs:=(cO o_ a1 c1)) kr).out (f:=(zAa0 oe og i7 dK cD)) hC kr kr rfl),((hS.cell (id:=6) (t:=3) (cs:=[I state]) kr).out (f:=(zAa0 oe og i7 dK cD)) hC kr kr rfl)⟩)
theorem C86 (v:∀ (o_:ah) (l_:List ab) (state:Int),VC86 o_ l_ state (fun r=>r=dZ o_ l_ state)):S86:=by
 intro w X o_ l_ state a1 c1 a2 c2 cD dK i7 og oe  h1 h2
 refine (W86 w X o_ l_ state a1 c1 a2 c2 cD dK i7 og oe  _ (v o_ l_ state) h1 h2).mono ?_
 rintro _ _ _ _ ⟨r,rfl,h⟩
 exact h
theorem W110 (w0) (X0) (r_:a8) (al:Int) (ap:Int) (b1) (i1) (b2) (i2) (Q:Bool->Prop) (hm:VC110 r_ al ap Q) (fb:Cell w0 X0 b1 i1 3 [.int .i64 al]) (gp:Cell w0 X0 b2 i2 3 [.int .i64 ap]) (hA:dP [i1,i2]) :
  Ret Tryz.prog 110 #[.agg #[.int .i64 r_.State,.int .i64 r_.Kind,.int .i64 r_.Next,.int .i64 r_.Result],.pointer (some ⟨b1,0,none⟩),.pointer (some ⟨b2,0,none⟩)] (pR [i1,i2]) w0 X0 (fun w X' v=>∃ r,Q r/\v=.bool r/\Cell w X' b1 i1 3 [.int .i64 al]/\Cell w X' b2 i2 3 [.int .i64 ap]):=by
 unfold VC110 at hm
 refine fv Tryz.func110 rfl (dB [(i1,901),(i2,902)]) (fun id=>(bif Nat.beq id 901 then b1 else (bif Nat.beq id 902 then b2 else 0))) (args:=[V (.agg #[.int .i64 r_.State,.int .i64 r_.Kind,.int .i64 r_.Next,.int .i64 r_.Result]),Pt 901 0,Pt 902 0]) (bxs:=[(901,(3,[I al])),(902,(3,[I ap]))]) kr rfl (bn.cons kr (fb.map (bK 0 hA.1 rfl)) (bn.cons kr (gp.map (bK 1 hA.1 rfl)) bn.nil)) (fe (fun q hq=>(hA.2 q.1 (List.mem_map.2 ⟨q,hq,rfl⟩)).1)) ?_
 intro a hS hO hM
 have hP:Pin [(901,b1),(902,b2)] (fun id=>(bif Nat.beq id 901 then b1 else (bif Nat.beq id 902 then b2 else 0))):=by intro q hq; simp at hq; rcases hq with rfl | rfl <;> rfl
 generalize (fun id=>(bif Nat.beq id 901 then b1 else (bif Nat.beq id 902 then b2 else 0)))=Z at hS hP
 clear fb gp
 refine rM T hS ⟨[(1,Pt 901 0),(2,Pt 902 0),(3,Pt 4 0)],[(4,(107,(cR r_))),(901,(3,[I al])),(902,(3,[I ap]))]⟩ fun Z a nS oy hS hE hr=>?_
 replace hO:=hO.m2 hE
 replace hP:=hP.mv hr kr
 clear hE hr
 refine bl ?_
 refine oP T hS 8 ⟨[(5,V (.agg #[.int .i64 r_.State,.int .i64 r_.Kind,.int .i64 r_.Next,.int .i64 r_.Result])),(12,V (.agg #[.int .i64 al,.int .i64 ap,.int .i64 r_.Next,.int .i64 r_.Result]))],[(901,(3,[I al])),(902,(3,[I ap]))]⟩ fun a hS=>?_
 refine op1 (structEq (op:=.eql) (xs:=[.int .i64 r_.State,.int .i64 r_.Kind,.int .i64 r_.Next,.int .i64 r_.Result]) (ys:=[.int .i64 al,.int .i64 ap,.int .i64 r_.Next,.int .i64 r_.Result]) (r:=(r_.State == al && (r_.Kind == ap && (r_.Next == r_.Next && (r_.Result == r_.Result && true))))) (b:=(r_.State == al && (r_.Kind == ap && (r_.Next == r_.Next && (r_.Result == r_.Result && true))))) T hS kr kr kr kr kr kr kr kr ?_)
 intro a hS
 refine ePe T hS [5,12,13] [(4,B (r_.State == al && (r_.Kind == ap && (r_.Next == r_.Next && (r_.Result == r_.Result && true)))))] fun a hS=>?_
 refine aV ?_
 exact gy T hS hO (fun c h=>bT kr h) (fun c h=>bU (l:=[(i1,901),(i2,902)]) h) (bO [(i1,901),(i2,902)]) rfl (r:=[.bool (r_.State == al && (r_.Kind == ap && (r_.Next == r_.Next && (r_.Result == r_.Result && true))))]) kr (fun X' hM hC=>⟨(r_.State == al && (r_.Kind == ap && (r_.Next == r_.Next && (r_.Result == r_.Result && true)))),hm,rfl,((hS.cell (id:=901) (t:=3) (cs:=[I al]) kr).out (f:=(bO [(i1,901),(i2,902)])) hC kr kr (hP.at 0 rfl)),((hS.cell (id:=902) (t:=3) (cs:=[I ap]) kr).out (f:=(bO [(i1,901),(i2,902)])) hC kr kr (hP.at 1 rfl))⟩)
theorem C110 (v:∀ (r_:a8) (al:Int) (ap:Int),VC110 r_ al ap (fun r=>r=gh r_ al ap)):S110:=by
 intro w X r_ al ap   b1 i1 b2 i2 fb gp hA
 refine (W110 w X r_ al ap   b1 i1 b2 i2 _ (v r_ al ap) fb gp hA).mono ?_
 rintro _ _ _ _ ⟨r,rfl,h⟩
 exact h
theorem W111_110 (FE:S110) (w0) (X0) (s_:List a8) (al:Int) (ap:Int) (a1) (c1) (b1) (i1) (b2) (i2) (Q:Int->Prop) (hm:VC111_110 s_ al ap Q) (h1:RS az w0 X0 a1 s_ c1) (fb:Cell w0 X0 b1 i1 3 [.int .i64 al]) (gp:Cell w0 X0 b2 i2 3 [.int .i64 ap]) (hA:dP [i1,i2]) :
  Ret Tryz.prog 111 #[.slice a1 s_.length c1,.func (.func 110) #[] #[.pointer (some ⟨b1,0,none⟩),.pointer (some ⟨b2,0,none⟩)]] (pR [i1,i2]) w0 X0 (fun w X' v=>∃ r,Q r/\v=.int .i64 r/\Cell w X' b1 i1 3 [.int .i64 al]/\Cell w X' b2 i2 3 [.int .i64 ap]):=by
 unfold VC111_110 at hm
 replace hm:=hm (h1.sm kr)
 refine fv Tryz.func111 rfl (dB [(i1,901),(i2,902)]) (fun id=>(bif Nat.beq id 901 then b1 else (bif Nat.beq id 902 then b2 else 0))) (args:=[Sl a1 s_ c1,.f (.func 110) [] [.p 901 0,.p 902 0]]) (bxs:=[(901,(3,[I al])),(902,(3,[I ap]))]) kr rfl (bn.cons kr (fb.map (bK 0 hA.1 rfl)) (bn.cons kr (gp.map (bK 1 hA.1 rfl)) bn.nil)) (fe (fun q hq=>(hA.2 q.1 (List.mem_map.2 ⟨q,hq,rfl⟩)).1)) ?_
 intro a hS hO hM
 have hP:Pin [(901,b1),(902,b2)] (fun id=>(bif Nat.beq id 901 then b1 else (bif Nat.beq id 902 then b2 else 0))):=by intro q hq; simp at hq; rcases hq with rfl | rfl <;> rfl
 generalize (fun id=>(bif Nat.beq id 901 then b1 else (bif Nat.beq id 902 then b2 else 0)))=Z at hS hP
 clear fb gp
 replace h1:=h1.m0 hM
 refine rPe T hS [] [] fun a hS=>?_
 refine b5 (fun a w=>∃ Z X,VC111_110_J1 Q/\St Tryz.f111.ntmps ⟨[],[(901,(3,[I al])),(902,(3,[I ap]))]⟩ Z a w X/\fO (dB [(i1,901),(i2,902)]) w0 X0 w X/\Pin [(901,b1),(902,b2)] Z) ?_ ?_
 ·refine rPe T hS [] [(7,I (lN s_)),(8,I 0)] fun a hS=>?_
  refine aK ?_
  obtain ⟨I1,μ1,ci,hm⟩:=hm
  refine cg (σ:=Int) (fun s a w=>∃ Z X,I1 s/\St Tryz.f111.ntmps ⟨[(0,Sl a1 s_ c1),(1,.f (.func 110) [] [.p 901 0,.p 902 0]),(7,I (lN s_)),(8,I s)],[(901,(3,[I al])),(902,(3,[I ap]))]⟩ Z a w X/\fO (dB [(i1,901),(i2,902)]) w0 X0 w X/\Pin [(901,b1),(902,b2)] Z/\RS az w X a1 s_ c1) (fun s=>μ1 s) (0) ?_ ?_
  ·exact ⟨Z,_,ci,hS.sl _,hO,hP,h1⟩
  rintro bu a tE ⟨Z,tt,hI,hS,hO,hP,h101⟩
  replace hm:=hm bu hI
  clear hI ci
  refine rPe T hS [] [(9,B (decide (bu < (lN s_))))] fun a hS=>?_
  refine bc ?_
  refine aG hS (b:=decide (bu < (lN s_))) kr (fun hb=>?_) fun hb=>?_
  ·replace hm:=hm.1 hb
   refine aJ (bc ?_)
   refine aK ?_
   refine rPe T hS [9] [(5,I bu)] fun a hS=>?_
   refine bl ?_
   refine oPe T hS 3 [] [(11,.f (.func 110) [] [.p 901 0,.p 902 0]),(12,Sl a1 s_ c1),(13,I bu)] fun a hS=>?_
   obtain ⟨hq,hm⟩:=hm
   refine op1 (index (e:=107) (k:=.i64) T hS kr kr kr kr h101 kr kr hq.1 hq.2 ?_)
   intro tv a h104 hS
   refine op1 (eD T hS kr kr kr h104 kr kr ?_)
   intro v105 a hv hS
   subst hv
   refine op1 (jK (fi:=[]) (cp:=[.p 901 0,.p 902 0]) hS kr kr hb110 kr kr (FE _ _ (gi s_ bu) al ap (Z 901) 901 (Z 902) 902 (hS.cell (id:=901) (t:=3) (cs:=[I al]) kr) (hS.cell (id:=902) (t:=3) (cs:=[I ap]) kr) ⟨by decide,by decide⟩) ?_)
   intro v106 a qT pd hE hp hS
   replace hO:=hO.m2 hE
   replace h101:=h101.m1 hE
   replace h104:=h104.m1 hE
   obtain ⟨hp,uw,uv⟩:=hp
   obtain ⟨iD,hr⟩:∃ r,gh (gi s_ bu) al ap=r:=⟨_,rfl⟩
   replace hm:=hm iD hr
   rw [hr] at hp
   clear hr
   subst hp
   replace hS:=hS.cB (id:=901) (t:=3) (cs:=[I al]) kr uw
   replace hS:=hS.cB (id:=902) (t:=3) (cs:=[I ap]) kr uv
   clear uw uv
   refine gA ?_
   refine aG hS (b:=iD) kr (fun hb=>?_) fun hb=>?_
   ·replace hm:=hm.1 hb
    refine rPe T hS [0,1,5,7,8,16] [(4,I bu)] fun a hS=>?_
    refine aV ?_
    exact gy T hS hO (fun c h=>bT kr h) (fun c h=>bU (l:=[(i1,901),(i2,902)]) h) (bO [(i1,901),(i2,902)]) rfl (r:=[.int .i64 bu]) kr (fun X' hM hC=>⟨bu,hm,rfl,((hS.cell (id:=901) (t:=3) (cs:=[I al]) kr).out (f:=(bO [(i1,901),(i2,902)])) hC kr kr (hP.at 0 rfl)),((hS.cell (id:=902) (t:=3) (cs:=[I ap]) kr).out (f:=(bO [(i1,901),(i2,902)])) hC kr kr (hP.at 1 rfl))⟩)
   replace hm:=hm.2 hb
   refine aJ ?_
   refine region (ePe T hS [5,16] [(8,I (wR (bu+1)))] fun a hS=>?_)
   exact ⟨wR (bu+1),⟨Z,_,hm.1,hS.sl _,hO,hP,h101⟩,hm.2⟩
  replace hm:=hm.2 hb
  refine cb (by rfl) ?_
  exact ⟨Z,_,hm,hS.sl _,hO,hP⟩
 rintro a oX ⟨Z,vj,hm,hS,hO,hP⟩
 unfold VC111_110_J1 at hm
 refine rPe T hS [] [(4,I (-1))] fun a hS=>?_
 refine aV ?_
 exact gy T hS hO (fun c h=>bT kr h) (fun c h=>bU (l:=[(i1,901),(i2,902)]) h) (bO [(i1,901),(i2,902)]) rfl (r:=[.int .i64 (-1)]) kr (fun X' hM hC=>⟨(-1),hm,rfl,((hS.cell (id:=901) (t:=3) (cs:=[I al]) kr).out (f:=(bO [(i1,901),(i2,902)])) hC kr kr (hP.at 0 rfl)),((hS.cell (id:=902) (t:=3) (cs:=[I ap]) kr).out (f:=(bO [(i1,901),(i2,902)])) hC kr kr (hP.at 1 rfl))⟩)
theorem C111_110 (FE:S110) (v:∀ (s_:List a8) (al:Int) (ap:Int),VC111_110 s_ al ap (fun r=>r=bg s_ al ap)):S111_110:=by
 intro w X s_ al ap a1 c1  b1 i1 b2 i2 h1 fb gp hA
 refine (W111_110 FE w X s_ al ap a1 c1  b1 i1 b2 i2 _ (v s_ al ap) h1 fb gp hA).mono ?_
 rintro _ _ _ _ ⟨r,rfl,h⟩
 exact h
theorem W103 (qm:S111_110) (w0) (X0) (o_:ah) (state:Int) (kind:Int) (a1) (c1) (Q:Int × Int × Bool->Prop) (hm:VC103 o_ state kind Q) (h1:RS az w0 X0 a1 o_.Rows c1) :
  Ret Tryz.prog 103 #[.agg #[.int .i64 o_.ar,.int .i64 o_.aw,.int .i64 o_.aE,.slice a1 o_.Rows.length c1],.int .i64 state,.int .i64 kind] aI w0 X0 (fun w X' v=>∃ r,Q r/\v=.tuple #[.int .i64 r.1,.int .i64 r.2.1,.bool r.2.2]):=by
 unfold VC103 at hm
 replace hm:=hm (h1.sm kr)
 refine enter Tryz.func103 rfl (vals:=[.agg #[.int .i64 o_.ar,.int .i64 o_.aw,.int .i64 o_.aE,.slice a1 o_.Rows.length c1],.int .i64 state,.int .i64 kind]) kr ?_
 intro Z a hS hO hM
 replace h1:=h1.m0 hM
 refine rM T hS ⟨[(3,Pt 4 0),(4,Pt 5 0),(5,Pt 6 0)],[(4,(48,(cO o_ a1 c1))),(5,(3,[I state])),(6,(3,[I kind]))]⟩ fun Z a tD zL hS hE hr=>?_
 replace hO:=hO.m2 hE
 replace h1:=h1.m1 hE
 clear hE hr
 refine rPe T hS [4,5] [(9,.f (.func 110) [] [.p 5 0,.p 6 0])] fun a hS=>?_
 refine bl ?_
 refine oPe T hS 3 [9] [(13,Sl a1 o_.Rows c1),(14,.f (.func 110) [] [.p 5 0,.p 6 0])] fun a hS=>?_
 refine op1 (lx hS kr kr hb111 kr (qm _ _ o_.Rows state kind a1 c1 (Z 5) 5 (Z 6) 6 h1 (hS.cell (id:=5) (t:=3) (cs:=[I state]) kr) (hS.cell (id:=6) (t:=3) (cs:=[I kind]) kr) ⟨by decide,by decide⟩) ?_)
 intro v101 a eX e8 hE hp hS
 replace hO:=hO.m2 hE
 replace h1:=h1.m1 hE
 obtain ⟨hp,uy,ux⟩:=hp
 obtain ⟨am,hr⟩:∃ r,bg o_.Rows state kind=r:=⟨_,rfl⟩
 replace hm:=hm am hr
 rw [hr] at hp
 clear hr
 subst hp
 replace hS:=hS.cB (id:=5) (t:=3) (cs:=[I state]) kr uy
 replace hS:=hS.cB (id:=6) (t:=3) (cs:=[I kind]) kr ux
 clear uy ux
 refine eP T hS ⟨[(3,Pt 4 0),(10,I am)],[(4,(48,(cO o_ a1 c1)))]⟩ fun a hS=>?_
 refine bc ?_
 refine rPe T hS [] [(17,B (decide (am < 0)))] fun a hS=>?_
 refine aG hS (b:=decide (am < 0)) kr (fun hb=>?_) fun hb=>?_
 ·replace hm:=hm.1 hb
  refine rP T hS ⟨[(6,I 0),(7,I 0),(8,B false)],[]⟩ fun a hS=>?_
  refine aV ?_
  exact fin T hS hO (fun c=>c) rfl (r:=[.int .i64 0,.int .i64 0,.bool false]) kr (fun X' hM hC=>⟨(0,0,false),hm,rfl⟩)
 replace hm:=hm.2 hb
 refine aJ ?_
 refine dw [4] mixed hS ?_
 intro qT pd hS hE hD hH
 replace hO:=hO.m2 hE
 replace h1:=h1.m1 hE
 refine tke T [0,2,6,8,1,7] [4] hS hH #[true,true,true,false,false,false,true,true,true,false,false,false,false,false,false] 9 [3,10] [(19,Sl a1 o_.Rows c1),(20,I am),(25,Sl a1 o_.Rows c1),(26,I am)] fun a hS=>?_
 obtain ⟨hq,hm⟩:=hm
 refine db (e:=107) (k:=.i64) T 3 hS kr kr kr (by rfl) kr hH kr kr h1 kr kr hq.1 hq.2 ?_
 intro zP a h110 hS
 have lQ:=h110.here
 refine du (off:=2) (fsz:=1) (ft:=3) (TF:=tI) (y:=(gi o_.Rows am).Next) 4 T hS kr kr kr (by rfl) kr hH kr h110 kr kr kr (fun cs h=>qN h) ?_
 intro Ce a h112 fy hS
 have xT:=lQ
 rw [← fy] at xT
 clear fy
 refine dU T 5 hS kr kr kr (by rfl) kr hH kr h112 xT rfl kr ?_
 intro v113 a hv hS
 cases hv
 refine tke T [12] [4] hS hH #[true,true,true,true,true,true,true,true,true,false,false,false,true,false,false] 5 [19,20,21,22,23] [(6,I ((gi o_.Rows am).Next))] fun a hS=>?_
 obtain ⟨hq,hm⟩:=hm
 refine db (e:=107) (k:=.i64) T 9 hS kr kr kr (by rfl) kr hH kr kr h1 kr kr hq.1 hq.2 ?_
 intro DS a h115 hS
 have qt:=h115.here
 refine du (off:=3) (fsz:=1) (ft:=3) (TF:=tI) (y:=(gi o_.Rows am).Result) 10 T hS kr kr kr (by rfl) kr hH kr h115 kr kr kr (fun cs h=>qM h) ?_
 intro Gx a h117 fy hS
 have nl:=qt
 rw [← fy] at nl
 clear fy
 refine dU T 11 hS kr kr kr (by rfl) kr hH kr h117 nl rfl kr ?_
 intro v118 a hv hS
 cases hv
 refine tke T [13,14] [4] hS hH (tts 15) 0 [25,26,27,28,29] [(7,I ((gi o_.Rows am).Result)),(8,B true)] fun a hS=>?_
 refine aU kr ?_
 replace hS:=hS.sl ⟨[(6,I ((gi o_.Rows am).Next)),(7,I ((gi o_.Rows am).Result)),(8,B true)],[]⟩
 refine aV ?_
 exact fin T hS hO (fun c=>c) rfl (r:=[.int .i64 ((gi o_.Rows am).Next),.int .i64 ((gi o_.Rows am).Result),.bool true]) kr (fun X' hM hC=>⟨((gi o_.Rows am).Next,(gi o_.Rows am).Result,true),hm,rfl⟩)
theorem C103 (qm:S111_110) (v:∀ (o_:ah) (state:Int) (kind:Int),VC103 o_ state kind (fun r=>r=cm o_ state kind)):S103:=by
 intro w X o_ state kind a1 c1   h1
 refine (W103 qm w X o_ state kind a1 c1   _ (v o_ state kind) h1).mono ?_
 rintro _ _ _ _ ⟨r,rfl,h⟩
 exact h
theorem W109 (qn:S103) (w0) (X0) (t_:gQ) (state:Int) (kind:Int) (a1) (c1) (Q:Int × Int × Bool->Prop) (hm:VC109 t_ state kind Q) (h1:RS az w0 X0 a1 t_.o.Rows c1) :
  Ret Tryz.prog 109 #[.agg #[.int .i64 t_.o.ar,.int .i64 t_.o.aw,.int .i64 t_.o.aE,.slice a1 t_.o.Rows.length c1],.int .i64 state,.int .i64 kind] aI w0 X0 (fun w X' v=>∃ r,Q r/\v=.tuple #[.int .i64 r.1,.int .i64 r.2.1,.bool r.2.2]):=by
 unfold VC109 at hm
 replace hm:=hm (h1.sm kr)
 refine enter Tryz.func109 rfl (vals:=[.agg #[.int .i64 t_.o.ar,.int .i64 t_.o.aw,.int .i64 t_.o.aE,.slice a1 t_.o.Rows.length c1],.int .i64 state,.int .i64 kind]) kr ?_
 intro Z a hS hO hM
 replace h1:=h1.m0 hM
 refine rM T hS ⟨[(1,I state),(2,I kind),(3,Pt 4 0)],[(4,(174,(cO t_.o a1 c1)))]⟩ fun Z a mE lB hS hE hr=>?_
 replace hO:=hO.m2 hE
 replace h1:=h1.m1 hE
 clear hE hr
 refine bl ?_
 refine oP T hS 4 ⟨[(10,V (.agg #[.int .i64 t_.o.ar,.int .i64 t_.o.aw,.int .i64 t_.o.aE,.slice a1 t_.o.Rows.length c1])),(11,I state),(12,I kind)],[]⟩ fun a hS=>?_
 refine op1 (call hS kr kr hb103 kr (fun _ _=>rfl) (qn _ _ t_.o state kind a1 c1 h1) ?_)
 intro v101 a eX e8 hE hp hS
 replace hO:=hO.m2 hE
 replace h1:=h1.m1 hE
 obtain ⟨am,hr⟩:∃ r,cm t_.o state kind=r:=⟨_,rfl⟩
 replace hm:=hm am hr
 rw [hr] at hp
 clear hr
 subst hp
 refine ePe T hS [10,11,12,13] [(6,I am.1),(7,I am.2.1),(8,B am.2.2)] fun a hS=>?_
 refine aV ?_
 exact fin T hS hO (fun c=>c) rfl (r:=[.int .i64 am.1,.int .i64 am.2.1,.bool am.2.2]) kr (fun X' hM hC=>⟨(am.1,am.2.1,am.2.2),hm,rfl⟩)
theorem C109 (qn:S103) (v:∀ (t_:gQ) (state:Int) (kind:Int),VC109 t_ state kind (fun r=>r=eI t_ state kind)):S109:=by
 intro w X t_ state kind a1 c1   h1
 refine (W109 qn w X t_ state kind a1 c1   _ (v t_ state kind) h1).mono ?_
 rintro _ _ _ _ ⟨r,rfl,h⟩
 exact h
theorem W98 (FF:S109) (w0) (X0) (o_:ah) (state:Int) (kind:Int) (result:Int) (a1) (c1) (Q:Int × Int->Prop) (hm:VC98 o_ state kind result Q) (h1:RS az w0 X0 a1 o_.Rows c1) :
  Ret Tryz.prog 98 #[.agg #[.int .i64 o_.ar,.int .i64 o_.aw,.int .i64 o_.aE,.slice a1 o_.Rows.length c1],.int .i64 state,.int .i64 kind,.int .i64 result] aI w0 X0 (fun w X' v=>∃ r,Q r/\v=.tuple #[.int .i64 r.1,.int .i64 r.2]):=by
 unfold VC98 at hm
 replace hm:=hm (h1.sm kr)
 refine enter Tryz.func98 rfl (vals:=[.agg #[.int .i64 o_.ar,.int .i64 o_.aw,.int .i64 o_.aE,.slice a1 o_.Rows.length c1],.int .i64 state,.int .i64 kind,.int .i64 result]) kr ?_
 intro Z a hS hO hM
 replace h1:=h1.m0 hM
 refine rM T hS ⟨[(1,I state),(2,I kind),(3,I result),(4,Pt 5 0)],[(5,(48,(cO o_ a1 c1)))]⟩ fun Z a mE lB hS hE hr=>?_
 replace hO:=hO.m2 hE
 replace h1:=h1.m1 hE
 clear hE hr
 refine bc ?_
 refine rPe T hS [] [(20,B ((decide (state < 0)) || (decide (state≥o_.ar))))] (sp:=[15]) fun a hS=>?_
 refine aG hS (b:=((decide (state < 0)) || (decide (state≥o_.ar)))) kr (fun hb=>?_) fun hb=>?_
 ·replace hm:=hm.1 hb
  refine rP T hS ⟨[(8,I 0),(9,I 30)],[]⟩ fun a hS=>?_
  refine aV ?_
  exact fin T hS hO (fun c=>c) rfl (r:=[.int .i64 0,.int .i64 30]) kr (fun X' hM hC=>⟨(0,30),hm,rfl⟩)
 replace hm:=hm.2 hb
 refine aJ ?_
 refine rP T hS ⟨[(1,I state),(2,I kind),(3,I result),(10,.f (.func 109) [.v (.agg #[.int .i64 o_.ar,.int .i64 o_.aw,.int .i64 o_.aE,.slice a1 o_.Rows.length c1])] [])],[]⟩ fun a hS=>?_
 refine bl ?_
 refine oPe T hS 3 [1,2,10] [(25,.f (.func 109) [.v (.agg #[.int .i64 o_.ar,.int .i64 o_.aw,.int .i64 o_.aE,.slice a1 o_.Rows.length c1])] []),(26,I state),(27,I kind)] fun a hS=>?_
 refine op1 (EK (fi:=[.v (.agg #[.int .i64 o_.ar,.int .i64 o_.aw,.int .i64 o_.aE,.slice a1 o_.Rows.length c1])]) (cp:=[]) hS kr kr hb109 kr kr (fun _ _=>rfl) (FF _ _ (⟨o_⟩:gQ) state kind a1 c1 h1) ?_)
 intro v101 a eX e8 hE hp hS
 replace hO:=hO.m2 hE
 replace h1:=h1.m1 hE
 obtain ⟨am,hr⟩:∃ r,eI (⟨o_⟩:gQ) state kind=r:=⟨_,rfl⟩
 replace hm:=hm am hr
 rw [hr] at hp
 clear hr
 subst hp
 refine ePe T hS [25,26,27,28] [(8,I am.1),(11,I am.2.1),(12,B am.2.2)] fun a hS=>?_
 refine bc ?_
 refine rPe T hS [3,11,12] [(38,B ((!am.2.2) || (am.2.1 != result)))] (sp:=[34]) fun a hS=>?_
 refine aG hS (b:=((!am.2.2) || (am.2.1 != result))) kr (fun hb=>?_) fun hb=>?_
 ·replace hm:=hm.1 hb
  refine rPe T hS [38] [(8,I 0),(9,I 40)] fun a hS=>?_
  refine aV ?_
  exact fin T hS hO (fun c=>c) rfl (r:=[.int .i64 0,.int .i64 40]) kr (fun X' hM hC=>⟨(0,40),hm,rfl⟩)
 replace hm:=hm.2 hb
 refine aJ ?_
 refine rPe T hS [38] [(9,I 0)] fun a hS=>?_
 refine aV ?_
 exact fin T hS hO (fun c=>c) rfl (r:=[.int .i64 am.1,.int .i64 0]) kr (fun X' hM hC=>⟨(am.1,0),hm,rfl⟩)
theorem C98 (FF:S109) (v:∀ (o_:ah) (state:Int) (kind:Int) (result:Int),VC98 o_ state kind result (fun r=>r=im o_ state kind result)):S98:=by
 intro w X o_ state kind result a1 c1   h1
 refine (W98 FF w X o_ state kind result a1 c1   _ (v o_ state kind result) h1).mono ?_
 rintro _ _ _ _ ⟨r,rfl,h⟩
 exact h
theorem W97 (Ka:S98) (w0) (X0) (p_:aa) (al:List ab) (ap:List (Int × Int)) (aL:ah) (bz:Int) (a1) (c1) (r2) (m2) (a3) (c3) (b1) (i1) (b2) (i2) (b3) (i3) (b4) (i4) (Q:Int × Int × (List (Int × Int)) × Int->Prop) (hm:VC97 p_ al ap aL bz Q) (h1:RS aq w0 X0 a1 al c1) (h2:OM kI tI false w0 X0 m2 r2 ap) (h3:RS az w0 X0 a3 aL.Rows c3) (fb:Cell w0 X0 b1 i1 42 [.slice a1 al.length c1]) (gp:Cell w0 X0 b2 i2 113 [.map (some r2)]) (lb:Cell w0 X0 b3 i3 48 [.int .i64 aL.ar,.int .i64 aL.aw,.int .i64 aL.aE,.slice a3 aL.Rows.length c3]) (sY:Cell w0 X0 b4 i4 3 [.int .i64 bz]) (hA:dP [i1,i2,i3,i4,m2]) :
  Ret Tryz.prog 97 #[.agg #[.int .i64 p_.Oper,.int .i64 p_.Result],.pointer (some ⟨b1,0,none⟩),.pointer (some ⟨b2,0,none⟩),.pointer (some ⟨b3,0,none⟩),.pointer (some ⟨b4,0,none⟩)] (pR [i1,i2,i3,i4,m2]) w0 X0 (fun w X' v=>∃ r,Q r/\v=.tuple #[.int .i64 r.1,.int .i64 r.2.1]/\Cell w X' b1 i1 42 [.slice a1 al.length c1]/\Cell w X' b2 i2 113 [.map (some r2)]/\OM kI tI false w X' m2 r2 r.2.2.1/\Cell w X' b3 i3 48 [.int .i64 aL.ar,.int .i64 aL.aw,.int .i64 aL.aE,.slice a3 aL.Rows.length c3]/\Cell w X' b4 i4 3 [.int .i64 r.2.2.2]):=by
 unfold VC97 at hm
 replace hm:=hm (h1.sm kr)
 replace hm:=hm (h3.sm kr)
 refine fv Tryz.func97 rfl (dB (zAa2 i1 i2 i3 i4 m2)) (fun id=>(bif Nat.beq id 901 then b1 else (bif Nat.beq id 902 then b2 else (bif Nat.beq id 903 then b3 else (bif Nat.beq id 904 then b4 else 0))))) (args:=[V (.agg #[.int .i64 p_.Oper,.int .i64 p_.Result]),Pt 901 0,Pt 902 0,Pt 903 0,Pt 904 0]) (bxs:=[(901,(42,[Sl a1 al c1])),(902,(113,[V (.map (some r2))])),(903,(48,(cO aL a3 c3))),(904,(3,[I bz]))]) kr rfl (bn.cons kr (fb.map (bK 0 hA.1 rfl)) (bn.cons kr (gp.map (bK 1 hA.1 rfl)) (bn.cons kr (lb.map (bK 2 hA.1 rfl)) (bn.cons kr (sY.map (bK 3 hA.1 rfl)) bn.nil)))) (fe (fun q hq=>(hA.2 q.1 (List.mem_map.2 ⟨q,hq,rfl⟩)).1)) ?_
 intro a hS hO hM
 have hP:Pin [(901,b1),(902,b2),(903,b3),(904,b4)] (fun id=>(bif Nat.beq id 901 then b1 else (bif Nat.beq id 902 then b2 else (bif Nat.beq id 903 then b3 else (bif Nat.beq id 904 then b4 else 0))))):=by intro q hq; simp at hq; rcases hq with rfl | rfl | rfl | rfl <;> rfl
 generalize (fun id=>(bif Nat.beq id 901 then b1 else (bif Nat.beq id 902 then b2 else (bif Nat.beq id 903 then b3 else (bif Nat.beq id 904 then b4 else 0)))))=Z at hS hP
 clear fb gp lb sY
 replace h1:=h1.m0 hM
 replace h2:=h2.map (f:=dB (zAa2 i1 i2 i3 i4 m2)) (bK 4 hA.1 rfl) hM
 replace h3:=h3.m0 hM
 refine rM T hS ⟨[(1,Pt 901 0),(2,Pt 902 0),(3,Pt 903 0),(4,Pt 904 0),(5,Pt 6 0)],[(6,(56,(cK p_))),(901,(42,[Sl a1 al c1])),(902,(113,[V (.map (some r2))])),(903,(48,(cO aL a3 c3))),(904,(3,[I bz]))]⟩ fun Z a tC tq hS hE hr=>?_
 replace hO:=hO.m2 hE
 replace h1:=h1.m1 hE
 replace h2:=h2.m2 hE
 replace h3:=h3.m1 hE
 replace hP:=hP.mv hr kr
 clear hE hr
 refine bc ?_
 refine aK ?_
 refine rPe T hS [] [(11,B ((decide (p_.Oper < 0)) || (decide (p_.Oper≥(lN al)))))] (sp:=[15]) fun a hS=>?_
 refine aG hS (b:=((decide (p_.Oper < 0)) || (decide (p_.Oper≥(lN al))))) kr (fun hb=>?_) fun hb=>?_
 ·replace hm:=hm.1 hb
  refine rP T hS ⟨[(6,I 0),(7,I 2)],[(901,(42,[Sl a1 al c1])),(902,(113,[V (.map (some r2))])),(903,(48,(cO aL a3 c3))),(904,(3,[I bz]))]⟩ fun a hS=>?_
  refine aV ?_
  exact gy T hS hO (fun c h=>bT kr h) (fun c h=>bU (l:=(zAa2 i1 i2 i3 i4 m2)) h) (bO (zAa2 i1 i2 i3 i4 m2)) rfl (r:=[.int .i64 0,.int .i64 2]) kr (fun X' hM hC=>⟨(0,2,ap,bz),hm,rfl,((hS.cell (id:=901) (t:=42) (cs:=[Sl a1 al c1]) kr).out (f:=(bO (zAa2 i1 i2 i3 i4 m2))) hC kr kr (hP.at 0 rfl)),((hS.cell (id:=902) (t:=113) (cs:=[V (.map (some r2))]) kr).out (f:=(bO (zAa2 i1 i2 i3 i4 m2))) hC kr kr (hP.at 1 rfl)),(h2.out (f:=(bO (zAa2 i1 i2 i3 i4 m2))) hM hC kr kr),((hS.cell (id:=903) (t:=48) (cs:=(cO aL a3 c3)) kr).out (f:=(bO (zAa2 i1 i2 i3 i4 m2))) hC kr kr (hP.at 2 rfl)),((hS.cell (id:=904) (t:=3) (cs:=[I bz]) kr).out (f:=(bO (zAa2 i1 i2 i3 i4 m2))) hC kr kr (hP.at 3 rfl))⟩)
 replace hm:=hm.2 hb
 refine bl ?_
 refine oPe T hS 3 [11] [(23,V (.map (some r2))),(25,I p_.Oper)] fun a hS=>?_
 refine op1 (jC kI tI false (zv:=.int .i64 0) (z:=0) p_.Oper hS kr kr kr kr Tryz.underlying113 Tryz.underlying3 kr rfl h2 ?_)
 intro v101 a hv hS
 replace hv:tI.R _ _ [v101] _:=hv
 cases hv
 refine ePe T hS [23,25,26] [(22,B (decide (((aC ap p_.Oper).getD 0) > 0)))] fun a hS=>?_
 refine aG hS (b:=decide (((aC ap p_.Oper).getD 0) > 0)) kr (fun hb=>?_) fun hb=>?_
 ·replace hm:=hm.1 hb
  refine rP T hS ⟨[(6,I 0),(7,I 21)],[(901,(42,[Sl a1 al c1])),(902,(113,[V (.map (some r2))])),(903,(48,(cO aL a3 c3))),(904,(3,[I bz]))]⟩ fun a hS=>?_
  refine aV ?_
  exact gy T hS hO (fun c h=>bT kr h) (fun c h=>bU (l:=(zAa2 i1 i2 i3 i4 m2)) h) (bO (zAa2 i1 i2 i3 i4 m2)) rfl (r:=[.int .i64 0,.int .i64 21]) kr (fun X' hM hC=>⟨(0,21,ap,bz),hm,rfl,((hS.cell (id:=901) (t:=42) (cs:=[Sl a1 al c1]) kr).out (f:=(bO (zAa2 i1 i2 i3 i4 m2))) hC kr kr (hP.at 0 rfl)),((hS.cell (id:=902) (t:=113) (cs:=[V (.map (some r2))]) kr).out (f:=(bO (zAa2 i1 i2 i3 i4 m2))) hC kr kr (hP.at 1 rfl)),(h2.out (f:=(bO (zAa2 i1 i2 i3 i4 m2))) hM hC kr kr),((hS.cell (id:=903) (t:=48) (cs:=(cO aL a3 c3)) kr).out (f:=(bO (zAa2 i1 i2 i3 i4 m2))) hC kr kr (hP.at 2 rfl)),((hS.cell (id:=904) (t:=3) (cs:=[I bz]) kr).out (f:=(bO (zAa2 i1 i2 i3 i4 m2))) hC kr kr (hP.at 3 rfl))⟩)
 replace hm:=hm.2 hb
 refine aJ ?_
 refine bl ?_
 refine oPe T hS 3 [2,22] [(28,V (.map (some r2))),(30,I p_.Oper)] fun a hS=>?_
 refine op1 (jC kI tI false (zv:=.int .i64 0) (z:=0) p_.Oper hS kr kr kr kr Tryz.underlying113 Tryz.underlying3 kr rfl h2 ?_)
 intro v102 a hv hS
 replace hv:tI.R _ _ [v102] _:=hv
 cases hv
 refine oPe T hS 1 [31] [(32,I (wR (((aC ap p_.Oper).getD 0)+1)))] fun a hS=>?_
 refine op1 (sN kI tI false (v:=I (wR (((aC ap p_.Oper).getD 0)+1))) (u:=wR (((aC ap p_.Oper).getD 0)+1)) p_.Oper hS kr kr kr kr Tryz.underlying113 Tryz.underlying3 kr h2 rfl ?_)
 intro a JV hE h104 hS
 clear h2
 replace hO:=hO.m2 hE
 replace h1:=h1.m1 hE
 replace h3:=h3.m1 hE
 refine gA ?_
 refine bl ?_
 refine oPe T hS 3 [1] [(33,Sl a1 al c1),(35,I p_.Oper)] fun a hS=>?_
 obtain ⟨hq,hm⟩:=hm
 refine op1 (index (e:=102) (k:=.i64) T hS kr kr kr kr h1 kr kr hq.1 hq.2 ?_)
 intro wL a h106 hS
 refine op1 (eD T hS kr kr kr h106 kr kr ?_)
 intro v107 a hv hS
 subst hv
 refine eM T hS ⟨[(3,Pt 903 0),(4,Pt 904 0),(5,Pt 6 0),(8,Pt 9 0)],[(6,(56,(cK p_))),(9,(102,(cP (gi al p_.Oper)))),(901,(42,[Sl a1 al c1])),(902,(113,[V (.map (some r2))])),(903,(48,(cO aL a3 c3))),(904,(3,[I bz]))]⟩ fun Z a E0 Gp hS hE hr=>?_
 replace hO:=hO.m2 hE
 replace h1:=h1.m1 hE
 replace h3:=h3.m1 hE
 replace h104:=h104.m2 hE
 replace hP:=hP.mv hr kr
 clear hE hr
 refine bl ?_
 refine oPe T hS 6 [3] [(39,V (.agg #[.int .i64 aL.ar,.int .i64 aL.aw,.int .i64 aL.aE,.slice a3 aL.Rows.length c3])),(40,I bz),(42,I ((gi al p_.Oper).Kind)),(44,I p_.Result)] fun a hS=>?_
 refine op1 (call hS kr kr hb98 kr (fun _ _=>rfl) (Ka _ _ aL bz ((gi al p_.Oper).Kind) p_.Result a3 c3 h3) ?_)
 intro v108 a pz q8 hE hp hS
 replace hO:=hO.m2 hE
 replace h1:=h1.m1 hE
 replace h3:=h3.m1 hE
 replace h104:=h104.m2 hE
 obtain ⟨cZ,hr⟩:∃ r,im aL bz ((gi al p_.Oper).Kind) p_.Result=r:=⟨_,rfl⟩
 replace hm:=hm cZ hr
 rw [hr] at hp
 clear hr
 subst hp
 refine ePe T hS [39,40,42,44,45] [(9,I cZ.1),(10,I cZ.2)] fun a hS=>?_
 refine b5 (fun a w=>∃ (Z:Nat->Nat) (X:Nat->Nat) (cW:Int),VC97_J1 p_ ap bz Q cZ cW/\St Tryz.f97.ntmps ⟨[(4,Pt 904 0),(9,I cZ.1),(10,I cW)],[(901,(42,[Sl a1 al c1])),(902,(113,[V (.map (some r2))])),(903,(48,(cO aL a3 c3))),(904,(3,[I bz]))]⟩ Z a w X/\fO (dB (zAa2 i1 i2 i3 i4 m2)) w0 X0 w X/\Pin [(901,b1),(902,b2),(903,b3),(904,b4)] Z/\RS aq w X a1 al c1/\OM kI tI false w X 2002 r2 (dj ap p_.Oper (wR (((aC ap p_.Oper).getD 0)+1)))/\RS az w X a3 aL.Rows c3) ?_ ?_
 ·refine rP T hS ⟨[(4,Pt 904 0),(9,I cZ.1),(10,I cZ.2),(61,B (((cZ.2 == 0) && (((gi al p_.Oper).End) != (-1))) && (((gi al p_.Oper).Result) != p_.Result)))],[(901,(42,[Sl a1 al c1])),(902,(113,[V (.map (some r2))])),(903,(48,(cO aL a3 c3))),(904,(3,[I bz]))]⟩ (sp:=[50,55]) fun a hS=>?_
  refine aG hS (b:=(((cZ.2 == 0) && (((gi al p_.Oper).End) != (-1))) && (((gi al p_.Oper).Result) != p_.Result))) kr (fun hb=>?_) fun hb=>?_
  ·replace hm:=hm.1 hb
   refine region (ePe T hS [61] [(10,I 40)] fun a hS=>?_)
   exact ⟨Z,_,40,hm,hS.sl _,hO,hP,h1,h104,h3⟩
  replace hm:=hm.2 hb
  refine aJ ?_
  exact ⟨Z,_,cZ.2,hm,hS.sl _,hO,hP,h1,h104,h3⟩
 rintro a tD ⟨Z,DN,cW,hm,hS,hO,hP,h113,h114,h115⟩
 unfold VC97_J1 at hm
 refine bc ?_
 refine rPe T hS [] [(63,B (cW != 0))] fun a hS=>?_
 refine aG hS (b:=(cW != 0)) kr (fun hb=>?_) fun hb=>?_
 ·replace hm:=hm.1 hb
  refine rPe T hS [4,9,10,63] [(6,I 0),(7,I cW)] fun a hS=>?_
  refine aV ?_
  exact gy T hS hO (fun c h=>bT kr h) (fun c h=>bU (l:=(zAa2 i1 i2 i3 i4 m2)) h) (bO (zAa2 i1 i2 i3 i4 m2)) rfl (r:=[.int .i64 0,.int .i64 cW]) kr (fun X' hM hC=>⟨(0,cW,dj ap p_.Oper (wR (((aC ap p_.Oper).getD 0)+1)),bz),hm,rfl,((hS.cell (id:=901) (t:=42) (cs:=[Sl a1 al c1]) kr).out (f:=(bO (zAa2 i1 i2 i3 i4 m2))) hC kr kr (hP.at 0 rfl)),((hS.cell (id:=902) (t:=113) (cs:=[V (.map (some r2))]) kr).out (f:=(bO (zAa2 i1 i2 i3 i4 m2))) hC kr kr (hP.at 1 rfl)),(h114.out (f:=(bO (zAa2 i1 i2 i3 i4 m2))) hM hC kr kr),((hS.cell (id:=903) (t:=48) (cs:=(cO aL a3 c3)) kr).out (f:=(bO (zAa2 i1 i2 i3 i4 m2))) hC kr kr (hP.at 2 rfl)),((hS.cell (id:=904) (t:=3) (cs:=[I bz]) kr).out (f:=(bO (zAa2 i1 i2 i3 i4 m2))) hC kr kr (hP.at 3 rfl))⟩)
 replace hm:=hm.2 hb
 refine aJ ?_
 refine rM T hS ⟨[(9,I cZ.1)],[(901,(42,[Sl a1 al c1])),(902,(113,[V (.map (some r2))])),(903,(48,(cO aL a3 c3))),(904,(3,[I cZ.1]))]⟩ fun Z a vA zM hS hE hr=>?_
 replace hO:=hO.m2 hE
 replace h113:=h113.m1 hE
 replace h114:=h114.m2 hE
 replace h115:=h115.m1 hE
 replace hP:=hP.mv hr kr
 clear hE hr
 refine rPe T hS [9] [(6,I cZ.1),(7,I 0)] fun a hS=>?_
 refine aV ?_
 exact gy T hS hO (fun c h=>bT kr h) (fun c h=>bU (l:=(zAa2 i1 i2 i3 i4 m2)) h) (bO (zAa2 i1 i2 i3 i4 m2)) rfl (r:=[.int .i64 cZ.1,.int .i64 0]) kr (fun X' hM hC=>⟨(cZ.1,0,dj ap p_.Oper (wR (((aC ap p_.Oper).getD 0)+1)),cZ.1),hm,rfl,((hS.cell (id:=901) (t:=42) (cs:=[Sl a1 al c1]) kr).out (f:=(bO (zAa2 i1 i2 i3 i4 m2))) hC kr kr (hP.at 0 rfl)),((hS.cell (id:=902) (t:=113) (cs:=[V (.map (some r2))]) kr).out (f:=(bO (zAa2 i1 i2 i3 i4 m2))) hC kr kr (hP.at 1 rfl)),(h114.out (f:=(bO (zAa2 i1 i2 i3 i4 m2))) hM hC kr kr),((hS.cell (id:=903) (t:=48) (cs:=(cO aL a3 c3)) kr).out (f:=(bO (zAa2 i1 i2 i3 i4 m2))) hC kr kr (hP.at 2 rfl)),((hS.cell (id:=904) (t:=3) (cs:=[I cZ.1]) kr).out (f:=(bO (zAa2 i1 i2 i3 i4 m2))) hC kr kr (hP.at 3 rfl))⟩)
theorem C97 (Ka:S98) (v:∀ (p_:aa) (al:List ab) (ap:List (Int × Int)) (aL:ah) (bz:Int),VC97 p_ al ap aL bz (fun r=>r=dc p_ al ap aL bz)):S97:=by
 intro w X p_ al ap aL bz a1 c1 r2 m2 a3 c3  b1 i1 b2 i2 b3 i3 b4 i4 h1 h2 h3 fb gp lb sY hA
 refine (W97 Ka w X p_ al ap aL bz a1 c1 r2 m2 a3 c3  b1 i1 b2 i2 b3 i3 b4 i4 _ (v p_ al ap aL bz) h1 h2 h3 fb gp lb sY hA).mono ?_
 rintro _ _ _ _ ⟨r,rfl,h⟩
 exact h
theorem W62 (Kl:S85) (Kk:S86) (Kb:S97) (w0) (X0) (o_:ah) (l_:List ab) (state:Int) (ac:List aa) (a1) (c1) (a2) (c2) (a3) (c3) (Q:Int × Int × Int->Prop) (hm:VC62 o_ l_ state ac Q) (h1:RS az w0 X0 a1 o_.Rows c1) (h2:RS aq w0 X0 a2 l_ c2) (h3:RS au w0 X0 a3 ac c3) :
  Ret Tryz.prog 62 #[.agg #[.int .i64 o_.ar,.int .i64 o_.aw,.int .i64 o_.aE,.slice a1 o_.Rows.length c1],.slice a2 l_.length c2,.int .i64 state,.slice a3 ac.length c3] aI w0 X0 (fun w X' v=>∃ r,Q r/\v=.tuple #[.int .i64 r.1,.int .i64 r.2.1,.int .i64 r.2.2]):=by
 unfold VC62 at hm
 replace hm:=hm (h1.sm kr)
 replace hm:=hm (h2.sm kr)
 replace hm:=hm (h3.sm kr)
 refine enter Tryz.func62 rfl (vals:=[.agg #[.int .i64 o_.ar,.int .i64 o_.aw,.int .i64 o_.aE,.slice a1 o_.Rows.length c1],.slice a2 l_.length c2,.int .i64 state,.slice a3 ac.length c3]) kr ?_
 intro Z a hS hO hM
 replace h1:=h1.m0 hM
 replace h2:=h2.m0 hM
 replace h3:=h3.m0 hM
 refine rM T hS ⟨[(1,Sl a2 l_ c2),(2,I state),(3,Sl a3 ac c3),(4,Pt 5 0)],[(5,(48,(cO o_ a1 c1)))]⟩ fun Z a r6 wD hS hE hr=>?_
 replace hO:=hO.m2 hE
 replace h1:=h1.m1 hE
 replace h2:=h2.m1 hE
 replace h3:=h3.m1 hE
 clear hE hr
 refine bc ?_
 refine bl ?_
 refine oPe T hS 2 [] [(17,V (.agg #[.int .i64 o_.ar,.int .i64 o_.aw,.int .i64 o_.aE,.slice a1 o_.Rows.length c1])),(18,I state)] fun a hS=>?_
 obtain ⟨hq,hm⟩:=hm
 refine op1 (call hS kr kr hb85 kr (fun _ _=>rfl) (Kl _ _ o_ state a1 c1 hq h1) ?_)
 intro v101 a eX e8 hE hp hS
 replace hO:=hO.m2 hE
 replace h1:=h1.m1 hE
 replace h2:=h2.m1 hE
 replace h3:=h3.m1 hE
 obtain ⟨am,hr⟩:∃ r,fg o_ state=r:=⟨_,rfl⟩
 replace hm:=hm am hr
 rw [hr] at hp
 clear hr
 subst hp
 refine ePe T hS [17,18,19] [(11,I am)] fun a hS=>?_
 refine rPe T hS [] [(21,B (am != 0))] fun a hS=>?_
 refine aG hS (b:=(am != 0)) kr (fun hb=>?_) fun hb=>?_
 ·replace hm:=hm.1 hb
  refine rP T hS ⟨[(8,I 0),(9,I (-1)),(10,I am)],[]⟩ fun a hS=>?_
  refine aV ?_
  exact fin T hS hO (fun c=>c) rfl (r:=[.int .i64 0,.int .i64 (-1),.int .i64 am]) kr (fun X' hM hC=>⟨(0,(-1),am),hm,rfl⟩)
 replace hm:=hm.2 hb
 refine aJ ?_
 refine bl ?_
 refine oP T hS 3 ⟨[(2,I state),(3,Sl a3 ac c3),(23,V (.agg #[.int .i64 o_.ar,.int .i64 o_.aw,.int .i64 o_.aE,.slice a1 o_.Rows.length c1])),(24,Sl a2 l_ c2),(25,I state)],[]⟩ fun a hS=>?_
 refine op1 (call hS kr kr hb86 kr (fun _ _=>rfl) (Kk _ _ o_ l_ state a1 c1 a2 c2 2113 701 702 703 704 h1 h2) ?_)
 intro v105 a mD mj hE hp hS
 replace hO:=hO.m2 hE
 replace h1:=h1.m1 hE
 replace h2:=h2.m1 hE
 replace h3:=h3.m1 hE
 obtain ⟨cx,cw,fB,lA,lw,b117,b118,b119,b120,hp,h111,h116,rx,uu,h112,qp,Bf⟩:=hp
 obtain ⟨aZ,hr⟩:∃ r,dZ o_ l_ state=r:=⟨_,rfl⟩
 replace hm:=hm aZ hr
 rw [hr] at h111 h116 rx qp Bf h112
 clear hr
 subst hp
 replace hm:=hm (h111.sm kr)
 replace hm:=hm (h116.sm kr)
 replace hS:=hS.n3 (id:=701) (t:=42) (cs:=[Sl cx aZ.1 cw]) kr kr rx rfl
 replace hS:=hS.n3 (id:=702) (t:=113) (cs:=[V (.map (some fB))]) kr kr uu rfl
 replace hS:=hS.n3 (id:=703) (t:=48) (cs:=(cO aZ.2.2.1 lA lw)) kr kr qp rfl
 replace hS:=hS.n3 (id:=704) (t:=3) (cs:=[I aZ.2.2.2]) kr kr Bf rfl
 replace hS:=hS.Bu (t:=26) (x:=V (.func (.func 97) #[] #[.pointer (some ⟨b117,0,none⟩),.pointer (some ⟨b118,0,none⟩),.pointer (some ⟨b119,0,none⟩),.pointer (some ⟨b120,0,none⟩)])) (y:=.f (.func 97) [] [.p 701 0,.p 702 0,.p 703 0,.p 704 0]) kr rfl
 generalize (upd (upd (upd (upd Z 701 b117) 702 b118) 703 b119) 704 b120)=Z at hS
 clear rx uu qp Bf
 refine ePe T hS [23,24,25,26] [(12,.f (.func 97) [] [.p 701 0,.p 702 0,.p 703 0,.p 704 0])] fun a hS=>?_
 refine rPe T hS [2] [(8,I state)] fun a hS=>?_
 refine b5 (fun a w=>∃ (Z:Nat->Nat) (X:Nat->Nat) (mC:Int),VC62_J1 ac Q mC/\St Tryz.f62.ntmps ⟨[(3,Sl a3 ac c3),(8,I mC)],[]⟩ Z a w X/\Old w0 X0 w X/\RS au w X a3 ac c3) ?_ ?_
 ·refine rPe T hS [] [(28,Sl a3 ac c3),(29,I (lN ac)),(30,I 0)] fun a hS=>?_
  refine aK ?_
  obtain ⟨I1,μ1,ci,hm⟩:=hm
  refine cg (σ:=Int × Int × (List (Int × Int)) × Int) (fun s a w=>∃ Z X,I1 s.1 s.2.1 s.2.2.1 s.2.2.2/\St Tryz.f62.ntmps ⟨[(3,Sl a3 ac c3),(8,I s.1),(12,.f (.func 97) [] [.p 701 0,.p 702 0,.p 703 0,.p 704 0]),(28,Sl a3 ac c3),(29,I (lN ac)),(30,I s.2.1)],[(701,(42,[Sl cx aZ.1 cw])),(702,(113,[V (.map (some fB))])),(703,(48,(cO aZ.2.2.1 lA lw))),(704,(3,[I s.2.2.2]))]⟩ Z a w X/\Old w0 X0 w X/\RS au w X a3 ac c3/\RS au w X a3 ac c3/\RS aq w X cx aZ.1 cw/\OM kI tI false w X 2113 fB s.2.2.1/\RS az w X lA aZ.2.2.1.Rows lw) (fun s=>μ1 s.1 s.2.1 s.2.2.1 s.2.2.2) (⟨state,0,aZ.2.1,aZ.2.2.2⟩) ?_ ?_
  ·exact ⟨Z,_,ci,hS.sl _,hO,h3,h3,h111,h112,h116⟩
  rintro ⟨fF,ls,gm,fU⟩ a EW ⟨Z,Gm,hI,hS,hO,h127,h129,h131,h133,h134⟩
  replace hm:=hm fF ls gm fU hI
  clear hI ci
  refine rPe T hS [] [(31,B (decide (ls < (lN ac))))] fun a hS=>?_
  refine bc ?_
  refine aG hS (b:=decide (ls < (lN ac))) kr (fun hb=>?_) fun hb=>?_
  ·replace hm:=hm.1 hb
   refine aJ (bc ?_)
   refine aK ?_
   refine bl ?_
   refine oPe T hS 1 [8,31] [(32,I ls)] fun a hS=>?_
   obtain ⟨hq,hm⟩:=hm
   refine op1 (index (e:=56) (k:=.i64) T hS kr kr kr kr h129 kr kr hq.1 hq.2 ?_)
   intro DP a h137 hS
   refine op1 (eD T hS kr kr kr h137 kr kr ?_)
   intro v138 a hv hS
   subst hv
   refine eM T hS ⟨[(3,Sl a3 ac c3),(12,.f (.func 97) [] [.p 701 0,.p 702 0,.p 703 0,.p 704 0]),(13,I ls),(14,Pt 15 0),(28,Sl a3 ac c3),(29,I (lN ac)),(30,I ls)],[(15,(56,(cK (gi ac ls)))),(701,(42,[Sl cx aZ.1 cw])),(702,(113,[V (.map (some fB))])),(703,(48,(cO aZ.2.2.1 lA lw))),(704,(3,[I fU]))]⟩ fun Z a Ab wF hS hE hr=>?_
   replace hO:=hO.m2 hE
   replace h127:=h127.m1 hE
   replace h129:=h129.m1 hE
   replace h131:=h131.m1 hE
   replace h133:=h133.m2 hE
   replace h134:=h134.m1 hE
   clear hE hr
   refine bl ?_
   refine oP T hS 2 ⟨[(3,Sl a3 ac c3),(12,.f (.func 97) [] [.p 701 0,.p 702 0,.p 703 0,.p 704 0]),(13,I ls),(28,Sl a3 ac c3),(29,I (lN ac)),(30,I ls),(36,.f (.func 97) [] [.p 701 0,.p 702 0,.p 703 0,.p 704 0]),(37,V (.agg #[.int .i64 ((gi ac ls).Oper),.int .i64 ((gi ac ls).Result)]))],[(701,(42,[Sl cx aZ.1 cw])),(702,(113,[V (.map (some fB))])),(703,(48,(cO aZ.2.2.1 lA lw))),(704,(3,[I fU]))]⟩ fun a hS=>?_
   refine op1 (jK (fi:=[]) (cp:=[.p 701 0,.p 702 0,.p 703 0,.p 704 0]) hS kr kr hb97 kr kr (Kb _ _ (gi ac ls) aZ.1 gm aZ.2.2.1 fU cx cw fB 2113 lA lw (Z 701) 701 (Z 702) 702 (Z 703) 703 (Z 704) 704 h131 h133 h134 (hS.cell (id:=701) (t:=42) (cs:=[Sl cx aZ.1 cw]) kr) (hS.cell (id:=702) (t:=113) (cs:=[V (.map (some fB))]) kr) (hS.cell (id:=703) (t:=48) (cs:=(cO aZ.2.2.1 lA lw)) kr) (hS.cell (id:=704) (t:=3) (cs:=[I fU]) kr) ⟨by decide,by decide⟩) ?_)
   intro v139 a yh wH hE hp hS
   clear h133
   replace hO:=hO.m2 hE
   replace h127:=h127.m1 hE
   replace h129:=h129.m1 hE
   replace h131:=h131.m1 hE
   replace h134:=h134.m1 hE
   obtain ⟨hp,Ej,Ei,h143,up,rt⟩:=hp
   obtain ⟨b6,hr⟩:∃ r,dc (gi ac ls) aZ.1 gm aZ.2.2.1 fU=r:=⟨_,rfl⟩
   replace hm:=hm b6 hr
   rw [hr] at hp rt h143
   clear hr
   subst hp
   replace hS:=hS.cB (id:=701) (t:=42) (cs:=[Sl cx aZ.1 cw]) kr Ej
   replace hS:=hS.cB (id:=702) (t:=113) (cs:=[V (.map (some fB))]) kr Ei
   replace hS:=hS.cB (id:=703) (t:=48) (cs:=(cO aZ.2.2.1 lA lw)) kr up
   replace hS:=hS.cB (id:=704) (t:=3) (cs:=[I b6.2.2.2]) kr rt
   clear Ej Ei up rt
   refine ePe T hS [36,37,38] [(15,I b6.1),(16,I b6.2.1)] fun a hS=>?_
   refine bc ?_
   refine rPe T hS [] [(42,B (b6.2.1 != 0))] fun a hS=>?_
   refine aG hS (b:=(b6.2.1 != 0)) kr (fun hb=>?_) fun hb=>?_
   ·replace hm:=hm.1 hb
    refine rP T hS ⟨[(8,I 0),(9,I ls),(10,I b6.2.1)],[]⟩ fun a hS=>?_
    refine aV ?_
    exact fin T hS hO (fun c=>c) rfl (r:=[.int .i64 0,.int .i64 ls,.int .i64 b6.2.1]) kr (fun X' hM hC=>⟨(0,ls,b6.2.1),hm,rfl⟩)
   replace hm:=hm.2 hb
   refine aJ ?_
   refine region (ePe T hS [13,15,16,42] [(8,I b6.1)] fun a hS=>?_)
   refine region (ePe T hS [] [(30,I (wR (ls+1)))] fun a hS=>?_)
   exact ⟨⟨b6.1,wR (ls+1),b6.2.2.1,b6.2.2.2⟩,⟨Z,_,hm.1,hS.sl _,hO,h127,h129,h131,h143,h134⟩,hm.2⟩
  replace hm:=hm.2 hb
  refine cb (by rfl) ?_
  exact ⟨Z,_,fF,hm,hS.sl _,hO,h127⟩
 rintro a z9 ⟨Z,wE,mC,hm,hS,hO,h125⟩
 unfold VC62_J1 at hm
 refine rPe T hS [3] [(9,I (lN ac)),(10,I 0)] fun a hS=>?_
 refine aV ?_
 exact fin T hS hO (fun c=>c) rfl (r:=[.int .i64 mC,.int .i64 (lN ac),.int .i64 0]) kr (fun X' hM hC=>⟨(mC,(lN ac),0),hm,rfl⟩)
theorem C62 (Kl:S85) (Kk:S86) (Kb:S97) (v:∀ (o_:ah) (l_:List ab) (state:Int) (ac:List aa),xc o_ l_ state ac->VC62 o_ l_ state ac (fun r=>r=iO o_ l_ state ac)):S62:=by
 intro w X o_ l_ state ac a1 c1 a2 c2 a3 c3   hp h1 h2 h3
 refine (W62 Kl Kk Kb w X o_ l_ state ac a1 c1 a2 c2 a3 c3   _ (v o_ l_ state ac hp) h1 h2 h3).mono ?_
 rintro _ _ _ _ ⟨r,rfl,h⟩
 exact h
theorem W33 (Ky:S62) (w0) (X0) (o_:ah) (l_:List ab) (ac:List aa) (a1) (c1) (a2) (c2) (a3) (c3) (Q:Int × Int × Int->Prop) (hm:VC33 o_ l_ ac Q) (h1:RS az w0 X0 a1 o_.Rows c1) (h2:RS aq w0 X0 a2 l_ c2) (h3:RS au w0 X0 a3 ac c3) :
  Ret Tryz.prog 33 #[.agg #[.int .i64 o_.ar,.int .i64 o_.aw,.int .i64 o_.aE,.slice a1 o_.Rows.length c1],.slice a2 l_.length c2,.slice a3 ac.length c3] aI w0 X0 (fun w X' v=>∃ r,Q r/\v=.tuple #[.int .i64 r.1,.int .i64 r.2.1,.int .i64 r.2.2]):=by
 unfold VC33 at hm
 replace hm:=hm (h1.sm kr)
 replace hm:=hm (h2.sm kr)
 replace hm:=hm (h3.sm kr)
 refine enter Tryz.func33 rfl (vals:=[.agg #[.int .i64 o_.ar,.int .i64 o_.aw,.int .i64 o_.aE,.slice a1 o_.Rows.length c1],.slice a2 l_.length c2,.slice a3 ac.length c3]) kr ?_
 intro Z a hS hO hM
 replace h1:=h1.m0 hM
 replace h2:=h2.m0 hM
 replace h3:=h3.m0 hM
 refine rM T hS ⟨[(1,Sl a2 l_ c2),(2,Sl a3 ac c3),(3,Pt 4 0)],[(4,(48,(cO o_ a1 c1)))]⟩ fun Z a mE lB hS hE hr=>?_
 replace hO:=hO.m2 hE
 replace h1:=h1.m1 hE
 replace h2:=h2.m1 hE
 replace h3:=h3.m1 hE
 clear hE hr
 refine bl ?_
 refine oP T hS 5 ⟨[(9,V (.agg #[.int .i64 o_.ar,.int .i64 o_.aw,.int .i64 o_.aE,.slice a1 o_.Rows.length c1])),(10,Sl a2 l_ c2),(12,I o_.aE),(13,Sl a3 ac c3)],[]⟩ fun a hS=>?_
 obtain ⟨hq,hm⟩:=hm
 refine op1 (call hS kr kr hb62 kr (fun _ _=>rfl) (Ky _ _ o_ l_ o_.aE ac a1 c1 a2 c2 a3 c3 hq h1 h2 h3) ?_)
 intro v101 a eX e8 hE hp hS
 replace hO:=hO.m2 hE
 replace h1:=h1.m1 hE
 replace h2:=h2.m1 hE
 replace h3:=h3.m1 hE
 obtain ⟨am,hr⟩:∃ r,iO o_ l_ o_.aE ac=r:=⟨_,rfl⟩
 replace hm:=hm am hr
 rw [hr] at hp
 clear hr
 subst hp
 refine ePe T hS [9,10,12,13,14] [(6,I am.1),(7,I am.2.1),(8,I am.2.2)] fun a hS=>?_
 refine aV ?_
 exact fin T hS hO (fun c=>c) rfl (r:=[.int .i64 am.1,.int .i64 am.2.1,.int .i64 am.2.2]) kr (fun X' hM hC=>⟨(am.1,am.2.1,am.2.2),hm,rfl⟩)
theorem C33 (Ky:S62) (v:∀ (o_:ah) (l_:List ab) (ac:List aa),kE o_ l_ ac->VC33 o_ l_ ac (fun r=>r=cC o_ l_ ac)):S33:=by
 intro w X o_ l_ ac a1 c1 a2 c2 a3 c3   hp h1 h2 h3
 refine (W33 Ky w X o_ l_ ac a1 c1 a2 c2 a3 c3   _ (v o_ l_ ac hp) h1 h2 h3).mono ?_
 rintro _ _ _ _ ⟨r,rfl,h⟩
 exact h
theorem W87 (w0) (X0) (ac:List aa) (a1) (c1) (cD) (dK) (Q:(List (Int × Int))->Prop) (hm:VC87 ac Q) (h1:RS au w0 X0 a1 ac c1) :
  Ret Tryz.prog 87 #[.slice a1 ac.length c1] aI w0 X0 (fun w X' v=>∃ r,Q r/\∃ Ha tU,v=.func (.func 99) #[] #[.pointer (some ⟨tU,0,none⟩)]/\Cell w X' tU dK 113 [.map (some Ha)]/\OM kI tI false w X' cD Ha r):=by
 unfold VC87 at hm
 replace hm:=hm (h1.sm kr)
 refine enter Tryz.func87 rfl (vals:=[.slice a1 ac.length c1]) kr ?_
 intro Z a hS hO hM
 replace h1:=h1.m0 hM
 refine rPe T hS [] [] fun a hS=>?_
 refine bl ?_
 refine op1 (oH kI tI false 1007 hS kr kr ?_)
 intro dX a eX e8 hE h104 hS
 replace hO:=hO.m2 hE
 replace h1:=h1.m1 hE
 refine eM T hS ⟨[(0,Sl a1 ac c1),(3,Pt 4 0)],[(4,(113,[V (.map (some dX))]))]⟩ fun Z a EZ wJ hS hE hr=>?_
 replace hO:=hO.m2 hE
 replace h1:=h1.m1 hE
 replace h104:=h104.m2 hE
 clear hE hr
 refine b5 (fun a w=>∃ (Z:Nat->Nat) (X:Nat->Nat) (fG:List (Int × Int)),VC87_J1 Q fG/\St Tryz.f87.ntmps ⟨[(3,Pt 4 0)],[(4,(113,[V (.map (some dX))]))]⟩ Z a w X/\Old w0 X0 w X/\OM kI tI false w X 1007 dX fG) ?_ ?_
 ·refine rPe T hS [0] [(7,Sl a1 ac c1),(8,I (lN ac)),(9,I 0)] fun a hS=>?_
  refine aK ?_
  obtain ⟨I1,μ1,ci,hm⟩:=hm
  refine cg (σ:=Int × (List (Int × Int))) (fun s a w=>∃ Z X,I1 s.1 s.2/\St Tryz.f87.ntmps ⟨[(3,Pt 4 0),(7,Sl a1 ac c1),(8,I (lN ac)),(9,I s.1)],[(4,(113,[V (.map (some dX))]))]⟩ Z a w X/\Old w0 X0 w X/\RS au w X a1 ac c1/\OM kI tI false w X 1007 dX s.2) (fun s=>μ1 s.1 s.2) (⟨0,([]:List (Int × Int))⟩) ?_ ?_
  ·exact ⟨Z,_,ci,hS.sl _,hO,h1,h104⟩
  rintro ⟨dt,ce⟩ a E0 ⟨Z,B9,hI,hS,hO,h107,h110⟩
  replace hm:=hm dt ce hI
  clear hI ci
  refine rPe T hS [] [(10,B (decide (dt < (lN ac))))] fun a hS=>?_
  refine bc ?_
  refine aG hS (b:=decide (dt < (lN ac))) kr (fun hb=>?_) fun hb=>?_
  ·replace hm:=hm.1 hb
   refine aJ (bc ?_)
   refine aK ?_
   refine bl ?_
   obtain ⟨hq,hm⟩:=hm
   refine op1 (index (e:=56) (k:=.i64) T hS kr kr kr kr h107 kr kr hq.1 hq.2 ?_)
   intro Ce a h112 hS
   refine op1 (eD T hS kr kr kr h112 kr kr ?_)
   intro v113 a hv hS
   subst hv
   refine eM T hS ⟨[(3,Pt 4 0),(5,Pt 6 0),(7,Sl a1 ac c1),(8,I (lN ac)),(9,I dt)],[(4,(113,[V (.map (some dX))])),(6,(56,(cK (gi ac dt))))]⟩ fun Z a Af DN hS hE hr=>?_
   replace hO:=hO.m2 hE
   replace h107:=h107.m1 hE
   replace h110:=h110.m2 hE
   clear hE hr
   refine region ?_
   refine oP T hS 3 ⟨[(3,Pt 4 0),(7,Sl a1 ac c1),(8,I (lN ac)),(9,I dt),(13,V (.map (some dX))),(15,I ((gi ac dt).Oper))],[(4,(113,[V (.map (some dX))]))]⟩ fun a hS=>?_
   refine op1 (jC kI tI false (zv:=.int .i64 0) (z:=0) ((gi ac dt).Oper) hS kr kr kr kr Tryz.underlying113 Tryz.underlying3 kr rfl h110 ?_)
   intro v114 a hv hS
   replace hv:tI.R _ _ [v114] _:=hv
   cases hv
   refine oPe T hS 1 [16] [(17,I (wR (((aC ce ((gi ac dt).Oper)).getD 0)+1)))] fun a hS=>?_
   refine op1 (sN kI tI false (v:=I (wR (((aC ce ((gi ac dt).Oper)).getD 0)+1))) (u:=wR (((aC ce ((gi ac dt).Oper)).getD 0)+1)) ((gi ac dt).Oper) hS kr kr kr kr Tryz.underlying113 Tryz.underlying3 kr h110 rfl ?_)
   intro a oX hE h116 hS
   clear h110
   replace hO:=hO.m2 hE
   replace h107:=h107.m1 hE
   refine gA ?_
   refine region (ePe T hS [] [(9,I (wR (dt+1)))] fun a hS=>?_)
   exact ⟨⟨wR (dt+1),dj ce ((gi ac dt).Oper) (wR (((aC ce ((gi ac dt).Oper)).getD 0)+1))⟩,⟨Z,_,hm.1,hS.sl _,hO,h107,h116⟩,hm.2⟩
  replace hm:=hm.2 hb
  refine cb (by rfl) ?_
  exact ⟨Z,_,ce,hm,hS.sl _,hO,h110⟩
 rintro a tC ⟨Z,Gp,fG,hm,hS,hO,h106⟩
 unfold VC87_J1 at hm
 refine rPe T hS [3] [(2,.f (.func 99) [] [.p 4 0])] fun a hS=>?_
 refine aV ?_
 exact fin T hS hO (zAa1 dK cD) rfl (r:=[.func (.func 99) #[] #[.pointer (some ⟨Z 4,0,none⟩)]]) kr (fun X' hM hC=>⟨fG,hm,dX,(Z 4),rfl,((hS.cell (id:=4) (t:=113) (cs:=[V (.map (some dX))]) kr).out (f:=(zAa1 dK cD)) hC kr kr rfl),(h106.out (f:=(zAa1 dK cD)) hM hC kr kr)⟩)
theorem C87 (v:∀ (ac:List aa),VC87 ac (fun r=>r=eW ac)):S87:=by
 intro w X ac a1 c1 cD dK  h1
 refine (W87 w X ac a1 c1 cD dK  _ (v ac) h1).mono ?_
 rintro _ _ _ _ ⟨r,rfl,h⟩
 exact h
theorem W99 (w0) (X0) (i_:Int) (al:List (Int × Int)) (r1) (m1) (b1) (i1) (Q:Bool->Prop) (hm:VC99 i_ al Q) (h1:OM kI tI false w0 X0 m1 r1 al) (fb:Cell w0 X0 b1 i1 113 [.map (some r1)]) (hA:dP [i1,m1]) :
  Ret Tryz.prog 99 #[.int .i64 i_,.pointer (some ⟨b1,0,none⟩)] (pR [i1,m1]) w0 X0 (fun w X' v=>∃ r,Q r/\v=.bool r/\Cell w X' b1 i1 113 [.map (some r1)]/\OM kI tI false w X' m1 r1 al):=by
 unfold VC99 at hm
 refine fv Tryz.func99 rfl (dB [(i1,901),(m1,2001)]) (fun id=>(bif Nat.beq id 901 then b1 else 0)) (args:=[I i_,Pt 901 0]) (bxs:=[(901,(113,[V (.map (some r1))]))]) kr rfl (bn.cons kr (fb.map (bK 0 hA.1 rfl)) bn.nil) (fe (fun q hq=>(hA.2 q.1 (List.mem_map.2 ⟨q,hq,rfl⟩)).1)) ?_
 intro a hS hO hM
 have hP:Pin [(901,b1)] (fun id=>(bif Nat.beq id 901 then b1 else 0)):=by intro q hq; simp at hq; rcases hq with rfl <;> rfl
 generalize (fun id=>(bif Nat.beq id 901 then b1 else 0))=Z at hS hP
 clear fb
 replace h1:=h1.map (f:=dB [(i1,901),(m1,2001)]) (bK 1 hA.1 rfl) hM
 refine rPe T hS [] [] fun a hS=>?_
 refine bl ?_
 refine oPe T hS 2 [0,1] [(4,V (.map (some r1))),(5,I i_)] fun a hS=>?_
 refine op1 (jC kI tI false (zv:=.int .i64 0) (z:=0) i_ hS kr kr kr kr Tryz.underlying113 Tryz.underlying3 kr rfl h1 ?_)
 intro v101 a hv hS
 replace hv:tI.R _ _ [v101] _:=hv
 cases hv
 refine ePe T hS [4,5,6] [(3,B (((aC al i_).getD 0) == 0))] fun a hS=>?_
 refine aV ?_
 exact gy T hS hO (fun c h=>bT kr h) (fun c h=>bU (l:=[(i1,901),(m1,2001)]) h) (bO [(i1,901),(m1,2001)]) rfl (r:=[.bool (((aC al i_).getD 0) == 0)]) kr (fun X' hM hC=>⟨(((aC al i_).getD 0) == 0),hm,rfl,((hS.cell (id:=901) (t:=113) (cs:=[V (.map (some r1))]) kr).out (f:=(bO [(i1,901),(m1,2001)])) hC kr kr (hP.at 0 rfl)),(h1.out (f:=(bO [(i1,901),(m1,2001)])) hM hC kr kr)⟩)
theorem C99 (v:∀ (i_:Int) (al:List (Int × Int)),VC99 i_ al (fun r=>r=eU i_ al)):S99:=by
 intro w X i_ al r1 m1  b1 i1 h1 fb hA
 refine (W99 w X i_ al r1 m1  b1 i1 _ (v i_ al) h1 fb hA).mono ?_
 rintro _ _ _ _ ⟨r,rfl,h⟩
 exact h
theorem W64 (Kj:S87) (J9:S99) (w0) (X0) (l_:List ab) (ac:List aa) (pending:Bool) (a1) (c1) (a2) (c2) (Q:(List Int)->Prop) (hm:VC64 l_ ac pending Q) (h1:RS aq w0 X0 a1 l_ c1) (h2:RS au w0 X0 a2 ac c2) :
  Ret Tryz.prog 64 #[.slice a1 l_.length c1,.slice a2 ac.length c2,.bool pending] aI w0 X0 (fun w X' v=>∃ r,Q r/\∃ co cn,v=.slice co r.length cn/\RS tI w X' co r cn):=by
 unfold VC64 at hm
 replace hm:=hm (h1.sm kr)
 replace hm:=hm (h2.sm kr)
 refine enter Tryz.func64 rfl (vals:=[.slice a1 l_.length c1,.slice a2 ac.length c2,.bool pending]) kr ?_
 intro Z a hS hO hM
 replace h1:=h1.m0 hM
 replace h2:=h2.m0 hM
 refine rPe T hS [] [] fun a hS=>?_
 refine bl ?_
 refine oPe T hS 1 [1] [(11,Sl a2 ac c2)] fun a hS=>?_
 refine op1 (call hS kr kr hb87 kr (fun _ _=>rfl) (Kj _ _ ac a2 c2 2106 701 h2) ?_)
 intro v101 a eX e8 hE hp hS
 replace hO:=hO.m2 hE
 replace h1:=h1.m1 hE
 replace h2:=h2.m1 hE
 obtain ⟨f5,b107,hp,Ex,h105⟩:=hp
 obtain ⟨am,hr⟩:∃ r,eW ac=r:=⟨_,rfl⟩
 replace hm:=hm am hr
 rw [hr] at h105
 clear hr
 subst hp
 replace hS:=hS.n3 (id:=701) (t:=113) (cs:=[V (.map (some f5))]) kr kr Ex rfl
 replace hS:=hS.Bu (t:=12) (x:=V (.func (.func 99) #[] #[.pointer (some ⟨b107,0,none⟩)])) (y:=.f (.func 99) [] [.p 701 0]) kr rfl
 generalize (upd Z 701 b107)=Z at hS
 clear Ex
 refine ePe T hS [11,12] [(7,.f (.func 99) [] [.p 701 0])] fun a hS=>?_
 refine rPe T hS [] [(8,V (.slice none 0 0))] fun a hS=>?_
 refine b5 (fun a w=>∃ (Z:Nat->Nat) (X:Nat->Nat) (ce:List Int) (eR:Option Addr) (d9:Nat),VC64_J1 Q ce/\St Tryz.f64.ntmps ⟨[(8,Sl eR ce d9)],[]⟩ Z a w X/\Old w0 X0 w X/\OS tI 3 w X 1007 eR ce d9) ?_ ?_
 ·refine rPe T hS [0] [(13,Sl a1 l_ c1),(14,I (lN l_)),(15,I 0)] fun a hS=>?_
  refine aK ?_
  obtain ⟨I1,μ1,ci,hm⟩:=hm
  refine cg (σ:=(List Int) × Int) (fun s a w=>∃ Z X dN dM,I1 s.1 s.2/\St Tryz.f64.ntmps ⟨[(2,B pending),(7,.f (.func 99) [] [.p 701 0]),(8,Sl dN s.1 dM),(13,Sl a1 l_ c1),(14,I (lN l_)),(15,I s.2)],[(701,(113,[V (.map (some f5))]))]⟩ Z a w X/\Old w0 X0 w X/\OS tI 3 w X 1007 dN s.1 dM/\RS aq w X a1 l_ c1/\OM kI tI false w X 2106 f5 am) (fun s=>μ1 s.1 s.2) (⟨[],0⟩) ?_ ?_
  ·exact ⟨Z,_,none,0,ci,hS.sl _,hO,(OS.nil _ _ _ _ _),h1,h105⟩
  rintro ⟨bo,d3⟩ a z8 ⟨Z,Gk,dN,dM,hI,hS,hO,h118,h119,h121⟩
  replace hm:=hm bo d3 hI
  clear hI ci
  refine rPe T hS [] [(16,B (decide (d3 < (lN l_))))] fun a hS=>?_
  refine bc ?_
  refine aG hS (b:=decide (d3 < (lN l_))) kr (fun hb=>?_) fun hb=>?_
  ·replace hm:=hm.1 hb
   refine aJ ?_
   refine b5 (fun a w=>∃ (Z:Nat->Nat) (X:Nat->Nat) (aR:List Int) (ov:Option Addr) (oo:Nat),VC64_J2 I1 μ1 bo d3 aR/\St Tryz.f64.ntmps ⟨[(2,B pending),(7,.f (.func 99) [] [.p 701 0]),(8,Sl ov aR oo),(13,Sl a1 l_ c1),(14,I (lN l_)),(15,I d3)],[(701,(113,[V (.map (some f5))]))]⟩ Z a w X/\Old w0 X0 w X/\OS tI 3 w X 1007 ov aR oo/\RS aq w X a1 l_ c1/\OM kI tI false w X 2106 f5 am) ?_ ?_
   ·refine aK ?_
    refine bl ?_
    refine oPe T hS 1 [16] [(17,I d3)] fun a hS=>?_
    obtain ⟨hq,hm⟩:=hm
    refine op1 (index (e:=102) (k:=.i64) T hS kr kr kr kr h119 kr kr hq.1 hq.2 ?_)
    intro I9 a h129 hS
    refine op1 (eD T hS kr kr kr h129 kr kr ?_)
    intro v130 a hv hS
    subst hv
    refine eM T hS ⟨[(2,B pending),(7,.f (.func 99) [] [.p 701 0]),(8,Sl dN bo dM),(9,I d3),(10,Pt 11 0),(13,Sl a1 l_ c1),(14,I (lN l_)),(15,I d3)],[(11,(102,(cP (gi l_ d3)))),(701,(113,[V (.map (some f5))]))]⟩ fun Z a EU B4 hS hE hr=>?_
    replace hO:=hO.m2 hE
    replace h118:=h118.m2 hE
    replace h119:=h119.m1 hE
    replace h121:=h121.m2 hE
    clear hE hr
    refine b5 (fun a w=>∃ (Z:Nat->Nat) (X:Nat->Nat) (fE:List Int) (jt:Bool) (gD:Option Addr) (gB:Nat),VC64_J3 I1 μ1 bo d3 fE jt/\St Tryz.f64.ntmps ⟨[(2,B pending),(7,.f (.func 99) [] [.p 701 0]),(8,Sl gD fE gB),(9,I d3),(13,Sl a1 l_ c1),(14,I (lN l_)),(15,I d3),(29,B jt)],[(701,(113,[V (.map (some f5))]))]⟩ Z a w X/\Old w0 X0 w X/\OS tI 3 w X 1007 gD fE gB/\RS aq w X a1 l_ c1/\OM kI tI false w X 2106 f5 am) ?_ ?_
    ·refine region ?_
     refine oP T hS 6 ⟨[(2,B pending),(7,.f (.func 99) [] [.p 701 0]),(8,Sl dN bo dM),(9,I d3),(13,Sl a1 l_ c1),(14,I (lN l_)),(15,I d3),(25,B ((((gi l_ d3).End) == (-1)) == pending))],[(701,(113,[V (.map (some f5))]))]⟩ fun a hS=>?_
     rcases bft ((((gi l_ d3).End) == (-1)) == pending) with hb | hb
     ·replace hS:=hS.lit (t:=25) kr hb
      replace hm:=hm.1 hb
      refine oPe T hS 2 [] [(26,.f (.func 99) [] [.p 701 0]),(27,I d3)] fun a hS=>?_
      refine op1 (jK (fi:=[]) (cp:=[.p 701 0]) hS kr kr hb99 kr kr (J9 _ _ d3 am f5 2106 (Z 701) 701 h121 (hS.cell (id:=701) (t:=113) (cs:=[V (.map (some f5))]) kr) ⟨by decide,by decide⟩) ?_)
      intro v147 a Ab wF hE hp hS
      clear h121
      replace hO:=hO.m2 hE
      replace h118:=h118.m2 hE
      replace h119:=h119.m1 hE
      obtain ⟨hp,Ef,h152⟩:=hp
      obtain ⟨yB,hr⟩:∃ r,eU d3 am=r:=⟨_,rfl⟩
      replace hm:=hm yB hr
      rw [hr] at hp
      clear hr
      subst hp
      replace hS:=hS.cB (id:=701) (t:=113) (cs:=[V (.map (some f5))]) kr Ef
      clear Ef
      refine ePe T hS [25,26,27,28] [(29,B yB)] fun a hS=>?_
      exact ⟨Z,_,bo,yB,dN,dM,hm,hS.sl _,hO,h118,h119,h152⟩
     replace hS:=hS.lit (t:=25) kr hb
     replace hm:=hm.2 hb
     refine ePe T hS [25] [(29,B false)] fun a hS=>?_
     exact ⟨Z,_,bo,false,dN,dM,hm,hS.sl _,hO,h118,h119,h121⟩
    rintro a r6 ⟨Z,IU,fE,jt,gD,gB,hm,hS,hO,h134,h135,h137⟩
    unfold VC64_J3 at hm
    refine aG hS (b:=jt) kr (fun hb=>?_) fun hb=>?_
    ·replace hm:=hm.1 hb
     refine region ?_
     refine oPe T hS 2 [9,29] [(30,Sl gD fE gB),(31,I d3)] fun a hS=>?_
     refine op1 (lit (E:=3) (col:=0) (T:=tI) (vals:=[.int .i64 d3]) (ys:=[d3]) T hS kr kr kr kr (by exact ⟨rfl,trivial⟩) rfl kr kr kr kr ?_)
     intro b138 a r7 vh hE h141 hN hS
     clear hN
     replace hO:=hO.m2 hE
     replace h134:=h134.m2 hE
     replace h135:=h135.m1 hE
     replace h137:=h137.m2 hE
     replace h141:=h141.rs0
     obtain ⟨hq,hm⟩:=hm
     obtain ⟨news,hN⟩:=h141.src
     refine op1 (append (E:=3) (T:=tI) (col:=1007) (xs:=fE) T hS kr kr kr kr h134 hN kr kr kr kr hq ?_)
     intro vf u4 a py q6 hE h144 hS
     clear hq hN
     clear h134
     replace hO:=hO.m2 hE
     replace h135:=h135.m1 hE
     replace h137:=h137.m2 hE
     replace h141:=h141.m1 hE
     refine ePe T hS [31,32,33] [(8,Sl vf (fE++[d3]) u4)] fun a hS=>?_
     exact ⟨Z,_,fE++[d3],vf,u4,hm,hS.sl _,hO,h144,h135,h137⟩
    replace hm:=hm.2 hb
    refine aJ ?_
    exact ⟨Z,_,fE,gD,gB,hm,hS.sl _,hO,h134,h135,h137⟩
   rintro a Cz ⟨Z,DK,aR,ov,oo,hm,hS,hO,h125,h126,h127⟩
   unfold VC64_J2 at hm
   refine region (ePe T hS [] [(15,I (wR (d3+1)))] fun a hS=>?_)
   exact ⟨⟨aR,wR (d3+1)⟩,⟨Z,_,ov,oo,hm.1,hS.sl _,hO,h125,h126,h127⟩,hm.2⟩
  replace hm:=hm.2 hb
  refine cb (by rfl) ?_
  exact ⟨Z,_,bo,dN,dM,hm,hS.sl _,hO,h118⟩
 rintro a Cy ⟨Z,B3,ce,eR,d9,hm,hS,hO,h112⟩
 unfold VC64_J1 at hm
 refine rPe T hS [8] [(6,Sl eR ce d9)] fun a hS=>?_
 refine aV ?_
 obtain ⟨qL,hE,hF⟩:=h112.freeze (by decide)
 replace hS:=hS.ev hE (cq kr)
 replace hO:=hO.m2 hE
 have h114:=hF; clear hE hF
 exact fin T hS hO (fun c=>c) rfl (r:=[.slice eR ce.length d9]) kr (fun X' hM hC=>⟨ce,hm,eR,d9,rfl,h114.m0 hM⟩)
theorem C64 (Kj:S87) (J9:S99) (v:∀ (l_:List ab) (ac:List aa) (pending:Bool),ua l_ ac pending->VC64 l_ ac pending (fun r=>r=dY l_ ac pending)):S64:=by
 intro w X l_ ac pending a1 c1 a2 c2   hp h1 h2
 refine (W64 Kj J9 w X l_ ac pending a1 c1 a2 c2   _ (v l_ ac pending hp) h1 h2).mono ?_
 rintro _ _ _ _ ⟨r,rfl,h⟩
 exact h
theorem W35 (Kx:S64) (w0) (X0) (l_:List ab) (ac:List aa) (a1) (c1) (a2) (c2) (Q:(List Int)->Prop) (hm:VC35 l_ ac Q) (h1:RS aq w0 X0 a1 l_ c1) (h2:RS au w0 X0 a2 ac c2) :
  Ret Tryz.prog 35 #[.slice a1 l_.length c1,.slice a2 ac.length c2] aI w0 X0 (fun w X' v=>∃ r,Q r/\∃ co cn,v=.slice co r.length cn/\RS tI w X' co r cn):=by
 unfold VC35 at hm
 replace hm:=hm (h1.sm kr)
 replace hm:=hm (h2.sm kr)
 refine enter Tryz.func35 rfl (vals:=[.slice a1 l_.length c1,.slice a2 ac.length c2]) kr ?_
 intro Z a hS hO hM
 replace h1:=h1.m0 hM
 replace h2:=h2.m0 hM
 refine rPe T hS [] [] fun a hS=>?_
 refine bl ?_
 refine oPe T hS 2 [0,1] [(5,Sl a1 l_ c1),(6,Sl a2 ac c2)] fun a hS=>?_
 obtain ⟨hq,hm⟩:=hm
 refine op1 (call hS kr kr hb64 kr (fun _ _=>rfl) (Kx _ _ l_ ac false a1 c1 a2 c2 hq h1 h2) ?_)
 intro v101 a eX e8 hE hp hS
 replace hO:=hO.m2 hE
 replace h1:=h1.m1 hE
 replace h2:=h2.m1 hE
 obtain ⟨dH,dG,hp,h107⟩:=hp
 obtain ⟨am,hr⟩:∃ r,dY l_ ac false=r:=⟨_,rfl⟩
 replace hm:=hm am hr
 rw [hr] at hp h107
 clear hr
 subst hp
 replace hm:=hm (h107.sm kr)
 refine ePe T hS [5,6,7] [(4,Sl dH am dG)] fun a hS=>?_
 refine aV ?_
 exact fin T hS hO (fun c=>c) rfl (r:=[.slice dH am.length dG]) kr (fun X' hM hC=>⟨am,hm,dH,dG,rfl,h107.m0 hM⟩)
theorem C35 (Kx:S64) (v:∀ (l_:List ab) (ac:List aa),pU l_ ac->VC35 l_ ac (fun r=>r=bZ l_ ac)):S35:=by
 intro w X l_ ac a1 c1 a2 c2   hp h1 h2
 refine (W35 Kx w X l_ ac a1 c1 a2 c2   _ (v l_ ac hp) h1 h2).mono ?_
 rintro _ _ _ _ ⟨r,rfl,h⟩
 exact h
theorem W63 (w0) (X0) (a_:ab) (b_:ab) (Q:Bool->Prop) (hm:VC63 a_ b_ Q) :
  Ret Tryz.prog 63 #[.agg #[.int .i64 a_.aj,.int .i64 a_.Kind,.int .i64 a_.aF,.int .i64 a_.End,.int .i64 a_.Result],.agg #[.int .i64 b_.aj,.int .i64 b_.Kind,.int .i64 b_.aF,.int .i64 b_.End,.int .i64 b_.Result]] aI w0 X0 (fun w X' v=>∃ r,Q r/\v=.bool r):=by
 unfold VC63 at hm
 refine enter Tryz.func63 rfl (vals:=[.agg #[.int .i64 a_.aj,.int .i64 a_.Kind,.int .i64 a_.aF,.int .i64 a_.End,.int .i64 a_.Result],.agg #[.int .i64 b_.aj,.int .i64 b_.Kind,.int .i64 b_.aF,.int .i64 b_.End,.int .i64 b_.Result]]) kr ?_
 intro Z a hS hO hM
 refine rM T hS ⟨[(2,Pt 3 0),(3,Pt 4 0)],[(3,(102,(cP a_))),(4,(102,(cP b_)))]⟩ fun Z a nS oy hS hE hr=>?_
 replace hO:=hO.m2 hE
 clear hE hr
 refine rP T hS ⟨[(4,B ((decide (a_.End≥0)) && (decide (a_.End < b_.aF))))],[]⟩ (sp:=[8]) fun a hS=>?_
 refine aV ?_
 exact fin T hS hO (fun c=>c) rfl (r:=[.bool ((decide (a_.End≥0)) && (decide (a_.End < b_.aF)))]) kr (fun X' hM hC=>⟨((decide (a_.End≥0)) && (decide (a_.End < b_.aF))),hm,rfl⟩)
theorem C63 (v:∀ (a_:ab) (b_:ab),VC63 a_ b_ (fun r=>r=bh a_ b_)):S63:=by
 intro w X a_ b_    
 refine (W63 w X a_ b_    _ (v a_ b_)).mono ?_
 rintro _ _ _ _ ⟨r,rfl,h⟩
 exact h
end Go.Proofs.YteahldlmkheleaaGreat
