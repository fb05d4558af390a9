/- Walks of the functions: each returns what its condition asks. -/
import Derived.Test.YteahldlmkheleaaGreatLWalksS
set_option linter.all false
namespace Go.Proofs.YteahldlmkheleaaGreat
open Go Go.Sv
abbrev zAa0 (o9 pa jI dV cU:Nat):Nat->Nat:=fun c=>(bif Nat.beq c 6 then o9 else (bif Nat.beq c 4 then pa else (bif Nat.beq c 8 then jI else (bif Nat.beq c 5 then dV else (bif Nat.beq c 1009 then cU else c)))))
abbrev zAa1 (dV cU:Nat):Nat->Nat:=fun c=>(bif Nat.beq c 4 then dV else (bif Nat.beq c 1007 then cU else c))
abbrev zAa2 (i1 i2 i3 i4 m2:Nat):List (Nat × Nat):=[(i1,901),(i2,902),(i3,903),(i4,904),(m2,2002)]
set_option maxHeartbeats 1000000
theorem W21 (w0) (X0) (o_:aj) (a1) (c1) (Q:Bool->Prop) (hm:VC21 o_ Q) (h1:RS aC w0 X0 a1 o_.Rows c1) :
  Ret Tryz.prog 21 #[.agg #[.int .i64 o_.au,.int .i64 o_.az,.int .i64 o_.aH,.slice a1 o_.Rows.length c1]] aL w0 X0 (fun w X' v=>∃ r,Q r/\v=.bool r):=by
 unfold VC21 at hm
 replace hm:=hm (h1.sm kr)
 refine enter Tryz.func21 rfl (vals:=[.agg #[.int .i64 o_.au,.int .i64 o_.az,.int .i64 o_.aH,.slice a1 o_.Rows.length c1]]) kr ?_
 intro Z a hS hO hM
 replace h1:=h1.m0 hM
 refine rM T hS ⟨[(1,Pt 2 0)],[(2,(48,(cO o_ a1 c1)))]⟩ fun Z a oO pw hS hE hr=>?_
 replace hO:=hO.m2 hE
 replace h1:=h1.m1 hE
 clear hE hr
 refine rP T hS ⟨[(2,B (decide ((lN o_.Rows)≤300)))],[]⟩ fun a hS=>?_
 refine aY ?_
 exact fin T hS hO (fun c=>c) rfl (r:=[.bool (decide ((lN o_.Rows)≤300))]) kr (fun X' hM hC=>⟨(decide ((lN o_.Rows)≤300)),hm,rfl⟩)
theorem C21 (v:∀ (o_:aj),VC21 o_ (fun r=>r=hU o_)):S21:=by
 intro w X o_ a1 c1   h1
 refine (W21 w X o_ a1 c1   _ (v o_) h1).mono ?_
 rintro _ _ _ _ ⟨r,rfl,h⟩
 exact h
theorem W81 (w0) (X0) (n_:Int) (top:Int) (Q:Bool->Prop) (hm:VC81 n_ top Q) :
  Ret Tryz.prog 81 #[.int .i64 n_,.int .i64 top] aL w0 X0 (fun w X' v=>∃ r,Q r/\v=.bool r):=by
 unfold VC81 at hm
 refine enter Tryz.func81 rfl (vals:=[.int .i64 n_,.int .i64 top]) kr ?_
 intro Z a hS hO hM
 refine rPe T hS [] [] fun a hS=>?_
 refine rPe T hS [0,1] [(4,B ((decide (n_≥0)) && (decide (n_ < top))))] (sp:=[7]) fun a hS=>?_
 refine aY ?_
 exact fin T hS hO (fun c=>c) rfl (r:=[.bool ((decide (n_≥0)) && (decide (n_ < top)))]) kr (fun X' hM hC=>⟨((decide (n_≥0)) && (decide (n_ < top))),hm,rfl⟩)
theorem C81 (v:∀ (n_:Int) (top:Int),VC81 n_ top (fun r=>r=b6 n_ top)):S81:=by
 intro w X n_ top    
 refine (W81 w X n_ top    _ (v n_ top)).mono ?_
 rintro _ _ _ _ ⟨r,rfl,h⟩
 exact h
theorem W107 (w0) (X0) (vals:List Int) (a1) (c1) (Q:Int->Prop) (hm:VC107 vals Q) (h1:RS tI w0 X0 a1 vals c1) :
  Ret Tryz.prog 107 #[.slice a1 vals.length c1] aL w0 X0 (fun w X' v=>∃ r,Q r/\v=.int .i64 r):=by
 unfold VC107 at hm
 replace hm:=hm (h1.sm kr)
 refine enter Tryz.func107 rfl (vals:=[.slice a1 vals.length c1]) kr ?_
 intro Z a hS hO hM
 replace h1:=h1.m0 hM
 refine rPe T hS [] [] fun a hS=>?_
 refine rPe T hS [] [(3,I 0)] fun a hS=>?_
 refine cb (fun a w=>∃ Z X,VC107_J1 Q/\St Tryz.f107.ntmps ⟨[(3,I 0)],[]⟩ Z a w X/\Old w0 X0 w X) ?_ ?_
 ·refine rPe T hS [0] [(6,Sl a1 vals c1),(7,I (lN vals)),(8,I 0)] fun a hS=>?_
  refine aN ?_
  obtain ⟨I1,μ1,cx,hm⟩:=hm
  refine ct (σ:=Int) (fun s a w=>∃ Z X,I1 s/\St Tryz.f107.ntmps ⟨[(3,I 0),(6,Sl a1 vals c1),(7,I (lN vals)),(8,I s)],[]⟩ Z a w X/\Old w0 X0 w X/\RS tI w X a1 vals c1) (fun s=>μ1 s) (0) ?_ ?_
  ·exact ⟨Z,_,cx,hS.sl _,hO,h1⟩
  rintro bC a rW ⟨Z,mi,hI,hS,hO,h101⟩
  replace hm:=hm bC hI
  clear hI cx
  refine rPe T hS [] [(9,B (decide (bC < (lN vals))))] fun a hS=>?_
  refine bg ?_
  refine aJ hS (b:=decide (bC < (lN vals))) kr (fun hb=>?_) fun hb=>?_
  ·replace hm:=hm.1 hb
   refine aM (bg ?_)
   refine aN ?_
   refine bq ?_
   obtain ⟨hq,hm⟩:=hm
   refine op1 (index (e:=3) (k:=.i64) T hS kr kr kr kr h101 kr kr hq.1 hq.2 ?_)
   intro uE a h104 hS
   refine op1 (dW T hS kr kr kr h104 rfl kr ?_)
   intro v105 a hv hS
   cases hv
   refine ePe T hS [9,10,11] [(5,I (gi vals bC))] fun a hS=>?_
   refine rPe T hS [] [(14,B ((gi vals bC) != 0))] fun a hS=>?_
   refine aJ hS (b:=((gi vals bC) != 0)) kr (fun hb=>?_) fun hb=>?_
   ·replace hm:=hm.1 hb
    refine rPe T hS [3,5,6,7,8,14] [(2,I (gi vals bC))] fun a hS=>?_
    refine aY ?_
    exact fin T hS hO (fun c=>c) rfl (r:=[.int .i64 (gi vals bC)]) kr (fun X' hM hC=>⟨(gi vals bC),hm,rfl⟩)
   replace hm:=hm.2 hb
   refine aM ?_
   refine region (ePe T hS [5,14] [(8,I (wR (bC+1)))] fun a hS=>?_)
   exact ⟨wR (bC+1),⟨Z,_,hm.1,hS.sl _,hO,h101⟩,hm.2⟩
  replace hm:=hm.2 hb
  refine cm (by rfl) ?_
  exact ⟨Z,_,hm,hS.sl _,hO⟩
 rintro a qo ⟨Z,qa,hm,hS,hO⟩
 unfold VC107_J1 at hm
 refine rPe T hS [3] [(2,I 0)] fun a hS=>?_
 refine aY ?_
 exact fin T hS hO (fun c=>c) rfl (r:=[.int .i64 0]) kr (fun X' hM hC=>⟨0,hm,rfl⟩)
theorem C107 (v:∀ (vals:List Int),VC107 vals (fun r=>r=gA vals)):S107:=by
 intro w X vals a1 c1   h1
 refine (W107 w X vals a1 c1   _ (v vals) h1).mono ?_
 rintro _ _ _ _ ⟨r,rfl,h⟩
 exact h
theorem W113 (w0) (X0) (x_:Int) (Q:Bool->Prop) (hm:VC113 x_ Q) :
  Ret Tryz.prog 113 #[.int .i64 x_] aL w0 X0 (fun w X' v=>∃ r,Q r/\v=.bool r):=by
 unfold VC113 at hm
 refine enter Tryz.func113 rfl (vals:=[.int .i64 x_]) kr ?_
 intro Z a hS hO hM
 refine rPe T hS [] [] fun a hS=>?_
 refine rPe T hS [0] [(2,B (x_ != x_))] fun a hS=>?_
 refine aY ?_
 exact fin T hS hO (fun c=>c) rfl (r:=[.bool (x_ != x_)]) kr (fun X' hM hC=>⟨(x_ != x_),hm,rfl⟩)
theorem C113 (v:∀ (x_:Int),VC113 x_ (fun r=>r=eY x_)):S113:=by
 intro w X x_    
 refine (W113 w X x_    _ (v x_)).mono ?_
 rintro _ _ _ _ ⟨r,rfl,h⟩
 exact h
theorem W108 (El:S113) (w0) (X0) (x_:Int) (y_:Int) (Q:Int->Prop) (hm:VC108 x_ y_ Q) :
  Ret Tryz.prog 108 #[.int .i64 x_,.int .i64 y_] aL w0 X0 (fun w X' v=>∃ r,Q r/\v=.int .i64 r):=by
 unfold VC108 at hm
 refine enter Tryz.func108 rfl (vals:=[.int .i64 x_,.int .i64 y_]) kr ?_
 intro Z a hS hO hM
 refine rPe T hS [] [] fun a hS=>?_
 refine bq ?_
 refine oPe T hS 1 [] [(7,I x_)] fun a hS=>?_
 refine op1 (call hS kr kr hb113 kr (fun _ _=>rfl) (El _ _ x_) ?_)
 intro v101 a fp fx hE hp hS
 replace hO:=hO.m2 hE
 obtain ⟨ax,hr⟩:∃ r,eY x_=r:=⟨_,rfl⟩
 replace hm:=hm ax hr
 rw [hr] at hp
 clear hr
 subst hp
 refine ePe T hS [7,8] [(5,B ax)] fun a hS=>?_
 refine bq ?_
 refine oPe T hS 1 [] [(9,I y_)] fun a hS=>?_
 refine op1 (call hS kr kr hb113 kr (fun _ _=>rfl) (El _ _ y_) ?_)
 intro v105 a ny m9 hE hp hS
 replace hO:=hO.m2 hE
 obtain ⟨ba,hr⟩:∃ r,eY y_=r:=⟨_,rfl⟩
 replace hm:=hm ba hr
 rw [hr] at hp
 clear hr
 subst hp
 refine ePe T hS [9,10] [(6,B ba)] fun a hS=>?_
 refine bg ?_
 refine rPe T hS [5] [(11,B ax)] fun a hS=>?_
 refine aJ hS (b:=ax) kr (fun hb=>?_) fun hb=>?_
 ·replace hm:=hm.1 hb
  refine bg ?_
  refine rPe T hS [0,1,6,11] [(12,B ba)] fun a hS=>?_
  refine aJ hS (b:=ba) kr (fun hb=>?_) fun hb=>?_
  ·replace hm:=hm.1 hb
   refine rPe T hS [12] [(4,I 0)] fun a hS=>?_
   refine aY ?_
   exact fin T hS hO (fun c=>c) rfl (r:=[.int .i64 0]) kr (fun X' hM hC=>⟨0,hm,rfl⟩)
  replace hm:=hm.2 hb
  refine aM ?_
  refine rPe T hS [12] [(4,I (-1))] fun a hS=>?_
  refine aY ?_
  exact fin T hS hO (fun c=>c) rfl (r:=[.int .i64 (-1)]) kr (fun X' hM hC=>⟨(-1),hm,rfl⟩)
 replace hm:=hm.2 hb
 refine aM (bg ?_)
 refine rPe T hS [6,11] [(13,B ba)] fun a hS=>?_
 refine aJ hS (b:=ba) kr (fun hb=>?_) fun hb=>?_
 ·replace hm:=hm.1 hb
  refine rPe T hS [0,1,13] [(4,I 1)] fun a hS=>?_
  refine aY ?_
  exact fin T hS hO (fun c=>c) rfl (r:=[.int .i64 1]) kr (fun X' hM hC=>⟨1,hm,rfl⟩)
 replace hm:=hm.2 hb
 refine aM (bg ?_)
 refine rPe T hS [13] [(16,B (decide (x_ < y_)))] fun a hS=>?_
 refine aJ hS (b:=decide (x_ < y_)) kr (fun hb=>?_) fun hb=>?_
 ·replace hm:=hm.1 hb
  refine rPe T hS [0,1,16] [(4,I (-1))] fun a hS=>?_
  refine aY ?_
  exact fin T hS hO (fun c=>c) rfl (r:=[.int .i64 (-1)]) kr (fun X' hM hC=>⟨(-1),hm,rfl⟩)
 replace hm:=hm.2 hb
 refine aM (bg ?_)
 refine rPe T hS [0,1,16] [(19,B (decide (x_ > y_)))] fun a hS=>?_
 refine aJ hS (b:=decide (x_ > y_)) kr (fun hb=>?_) fun hb=>?_
 ·replace hm:=hm.1 hb
  refine rPe T hS [19] [(4,I 1)] fun a hS=>?_
  refine aY ?_
  exact fin T hS hO (fun c=>c) rfl (r:=[.int .i64 1]) kr (fun X' hM hC=>⟨1,hm,rfl⟩)
 replace hm:=hm.2 hb
 refine aM ?_
 refine rPe T hS [19] [(4,I 0)] fun a hS=>?_
 refine aY ?_
 exact fin T hS hO (fun c=>c) rfl (r:=[.int .i64 0]) kr (fun X' hM hC=>⟨0,hm,rfl⟩)
theorem C108 (El:S113) (v:∀ (x_:Int) (y_:Int),VC108 x_ y_ (fun r=>r=dw x_ y_)):S108:=by
 intro w X x_ y_    
 refine (W108 El w X x_ y_    _ (v x_ y_)).mono ?_
 rintro _ _ _ _ ⟨r,rfl,h⟩
 exact h
theorem W96 (GY:S107) (Em:S108) (w0) (X0) (a_:bb) (b_:bb) (Q:Int->Prop) (hm:VC96 a_ b_ Q) :
  Ret Tryz.prog 96 #[.agg #[.int .i64 a_.State,.int .i64 a_.Kind,.int .i64 a_.Next,.int .i64 a_.Result],.agg #[.int .i64 b_.State,.int .i64 b_.Kind,.int .i64 b_.Next,.int .i64 b_.Result]] aL w0 X0 (fun w X' v=>∃ r,Q r/\v=.int .i64 r):=by
 unfold VC96 at hm
 refine enter Tryz.func96 rfl (vals:=[.agg #[.int .i64 a_.State,.int .i64 a_.Kind,.int .i64 a_.Next,.int .i64 a_.Result],.agg #[.int .i64 b_.State,.int .i64 b_.Kind,.int .i64 b_.Next,.int .i64 b_.Result]]) kr ?_
 intro Z a hS hO hM
 refine rM T hS ⟨[(2,Pt 3 0),(3,Pt 4 0)],[(3,(107,(cR a_))),(4,(107,(cR b_)))]⟩ fun Z a uL A0 hS hE hr=>?_
 replace hO:=hO.m2 hE
 clear hE hr
 refine dG [3,4] mixed hS ?_
 intro oO pw hS hE hD hH
 replace hO:=hO.m2 hE
 refine tke T [0,2,5,7,1,3,6,8] [3,4] hS hH #[true,true,true,true,false,true,true,true,true,false,false,false,false] 5 [2,3] [(6,I a_.State),(8,I b_.State),(11,I a_.Kind),(13,I b_.Kind)] fun a hS=>?_
 refine only 4 kr (by rfl) (call hS kr kr hb108 kr (fun _ _=>rfl) (Em _ _ a_.State b_.State) ?_)
 intro v103 a zL pt hE hp hS
 replace hO:=hO.m2 hE
 replace hD:=hD.ev hE rfl
 obtain ⟨gC,hr⟩:∃ r,dw a_.State b_.State=r:=⟨_,rfl⟩
 replace hm:=hm gC hr
 rw [hr] at hp
 clear hr
 subst hp
 replace hS:=hS.sle [] [(9,I gC)]
 refine di (bP.of hS (bks:=[3,4]) kr hD) ?_
 intro hH
 refine only 9 kr (by rfl) (call hS kr kr hb108 kr (fun _ _=>rfl) (Em _ _ a_.Kind b_.Kind) ?_)
 intro v107 a Gl Dq hE hp hS
 replace hO:=hO.m2 hE
 replace hD:=hD.ev hE rfl
 obtain ⟨fu,hr⟩:∃ r,dw a_.Kind b_.Kind=r:=⟨_,rfl⟩
 replace hm:=hm fu hr
 rw [hr] at hp
 clear hr
 subst hp
 replace hS:=hS.sle [] [(14,I fu)]
 refine di (bP.of hS (bks:=[3,4]) kr hD) ?_
 intro hH
 refine only 10 kr (by rfl) (lit (E:=3) (col:=0) (T:=tI) (vals:=[.int .i64 gC,.int .i64 fu]) (ys:=[gC,fu]) T hS kr kr kr kr (by exact ⟨rfl,rfl,trivial⟩) rfl kr kr kr kr ?_)
 intro b111 a zK rN hE h114 hN hS
 clear hN
 replace hO:=hO.m2 hE
 replace hD:=hD.ev hE rfl
 replace h114:=h114.rs0
 refine di (bP.of hS (bks:=[3,4]) kr hD) ?_
 intro hH
 refine only 11 kr (by rfl) (call hS kr kr hb107 kr (fun _ _=>rfl) (GY _ _ [gC,fu] (some ⟨b111,0,none⟩) 2 h114) ?_)
 intro v115 a wT A1 hE hp hS
 replace hO:=hO.m2 hE
 replace hD:=hD.ev hE rfl
 replace h114:=h114.m1 hE
 obtain ⟨lJ,hr⟩:∃ r,gA [gC,fu]=r:=⟨_,rfl⟩
 replace hm:=hm lJ hr
 rw [hr] at hp
 clear hr
 subst hp
 replace hS:=hS.sle [] [(16,I lJ)]
 refine di (bP.of hS (bks:=[3,4]) kr hD) ?_
 intro hH
 refine tke T [12] [3,4] hS hH (tts 13) 0 [6,8,11,13,9,14,15,16] [(4,I lJ)] fun a hS=>?_
 refine aX kr ?_
 replace hS:=hS.sl ⟨[(4,I lJ)],[]⟩
 refine aY ?_
 exact fin T hS hO (fun c=>c) rfl (r:=[.int .i64 lJ]) kr (fun X' hM hC=>⟨lJ,hm,rfl⟩)
theorem C96 (GY:S107) (Em:S108) (v:∀ (a_:bb) (b_:bb),VC96 a_ b_ (fun r=>r=gv a_ b_)):S96:=by
 intro w X a_ b_    
 refine (W96 GY Em w X a_ b_    _ (v a_ b_)).mono ?_
 rintro _ _ _ _ ⟨r,rfl,h⟩
 exact h
theorem W82 (A5:S81) (Lw:S96) (w0) (X0) (o_:aj) (i_:Int) (a1) (c1) (Q:Int->Prop) (hm:VC82 o_ i_ Q) (h1:RS aC w0 X0 a1 o_.Rows c1) :
  Ret Tryz.prog 82 #[.agg #[.int .i64 o_.au,.int .i64 o_.az,.int .i64 o_.aH,.slice a1 o_.Rows.length c1],.int .i64 i_] aL w0 X0 (fun w X' v=>∃ r,Q r/\v=.int .i64 r):=by
 unfold VC82 at hm
 replace hm:=hm (h1.sm kr)
 refine enter Tryz.func82 rfl (vals:=[.agg #[.int .i64 o_.au,.int .i64 o_.az,.int .i64 o_.aH,.slice a1 o_.Rows.length c1],.int .i64 i_]) kr ?_
 intro Z a hS hO hM
 replace h1:=h1.m0 hM
 refine rM T hS ⟨[(1,I i_),(2,Pt 3 0)],[(3,(48,(cO o_ a1 c1)))]⟩ fun Z a Bq E3 hS hE hr=>?_
 replace hO:=hO.m2 hE
 replace h1:=h1.m1 hE
 clear hE hr
 refine bq ?_
 refine oPe T hS 3 [] [(7,Sl a1 o_.Rows c1),(8,I i_)] fun a hS=>?_
 obtain ⟨hq,hm⟩:=hm
 refine op1 (index (e:=107) (k:=.i64) T hS kr kr kr kr h1 kr kr hq.1 hq.2 ?_)
 intro Kx a h102 hS
 refine op1 (eU T hS kr kr kr h102 kr kr ?_)
 intro v103 a hv hS
 subst hv
 refine eM T hS ⟨[(1,I i_),(2,Pt 3 0),(5,Pt 6 0)],[(3,(48,(cO o_ a1 c1))),(6,(107,(cR (gi o_.Rows i_))))]⟩ fun Z a tl wB hS hE hr=>?_
 replace hO:=hO.m2 hE
 replace h1:=h1.m1 hE
 clear hE hr
 refine bg ?_
 refine aN ?_
 refine cb (fun a w=>∃ (Z:Nat->Nat) (X:Nat->Nat) (ir:Bool),VC82_J1 o_ i_ Q ir/\St Tryz.f82.ntmps ⟨[(1,I i_),(2,Pt 3 0),(5,Pt 6 0),(11,B ir)],[(3,(48,(cO o_ a1 c1))),(6,(107,(cR (gi o_.Rows i_))))]⟩ Z a w X/\Old w0 X0 w X/\RS aC w X a1 o_.Rows c1) ?_ ?_
 ·refine region ?_
  refine oPe T hS 4 [] [(13,I ((gi o_.Rows i_).State)),(15,I o_.au)] fun a hS=>?_
  refine op1 (call hS kr kr hb81 kr (fun _ _=>rfl) (A5 _ _ ((gi o_.Rows i_).State) o_.au) ?_)
  intro v126 a uJ Dm hE hp hS
  replace hO:=hO.m2 hE
  replace h1:=h1.m1 hE
  obtain ⟨xk,hr⟩:∃ r,b6 ((gi o_.Rows i_).State) o_.au=r:=⟨_,rfl⟩
  replace hm:=hm xk hr
  rw [hr] at hp
  clear hr
  subst hp
  refine oPe T hS 2 [13,15,16] [(18,B (!xk))] fun a hS=>?_
  rcases bft (!xk) with hb | hb
  ·replace hS:=hS.lit (t:=18) kr hb
   replace hm:=hm.1 hb
   refine ePe T hS [18] [(11,B true)] fun a hS=>?_
   exact ⟨Z,_,true,hm,hS.sl _,hO,h1⟩
  replace hS:=hS.lit (t:=18) kr hb
  replace hm:=hm.2 hb
  refine oPe T hS 4 [] [(20,I ((gi o_.Rows i_).Next)),(22,I o_.au)] fun a hS=>?_
  refine op1 (call hS kr kr hb81 kr (fun _ _=>rfl) (A5 _ _ ((gi o_.Rows i_).Next) o_.au) ?_)
  intro v130 a pU pq hE hp hS
  replace hO:=hO.m2 hE
  replace h1:=h1.m1 hE
  obtain ⟨gk,hr⟩:∃ r,b6 ((gi o_.Rows i_).Next) o_.au=r:=⟨_,rfl⟩
  replace hm:=hm gk hr
  rw [hr] at hp
  clear hr
  subst hp
  refine ePe T hS [18,20,22,23] [(11,B (!gk))] fun a hS=>?_
  exact ⟨Z,_,(!gk),hm,hS.sl _,hO,h1⟩
 rintro a DU ⟨Z,Dk,ir,hm,hS,hO,h105⟩
 unfold VC82_J1 at hm
 refine aJ hS (b:=ir) kr (fun hb=>?_) fun hb=>?_
 ·replace hm:=hm.1 hb
  refine rP T hS ⟨[(4,I 30)],[]⟩ fun a hS=>?_
  refine aY ?_
  exact fin T hS hO (fun c=>c) rfl (r:=[.int .i64 30]) kr (fun X' hM hC=>⟨30,hm,rfl⟩)
 replace hm:=hm.2 hb
 refine bq ?_
 refine oPe T hS 4 [11] [(28,I ((gi o_.Rows i_).Kind)),(30,I o_.az)] fun a hS=>?_
 refine op1 (call hS kr kr hb81 kr (fun _ _=>rfl) (A5 _ _ ((gi o_.Rows i_).Kind) o_.az) ?_)
 intro v106 a rW qa hE hp hS
 replace hO:=hO.m2 hE
 replace h105:=h105.m1 hE
 obtain ⟨jg,hr⟩:∃ r,b6 ((gi o_.Rows i_).Kind) o_.az=r:=⟨_,rfl⟩
 replace hm:=hm jg hr
 rw [hr] at hp
 clear hr
 subst hp
 refine ePe T hS [28,30,31] [(26,B (!jg))] fun a hS=>?_
 refine aJ hS (b:=(!jg)) kr (fun hb=>?_) fun hb=>?_
 ·replace hm:=hm.1 hb
  refine rP T hS ⟨[(4,I 31)],[]⟩ fun a hS=>?_
  refine aY ?_
  exact fin T hS hO (fun c=>c) rfl (r:=[.int .i64 31]) kr (fun X' hM hC=>⟨31,hm,rfl⟩)
 replace hm:=hm.2 hb
 refine bq ?_
 refine oPe T hS 2 [26] [(35,I ((gi o_.Rows i_).Result))] fun a hS=>?_
 refine op1 (call hS kr kr hb81 kr (fun _ _=>rfl) (A5 _ _ ((gi o_.Rows i_).Result) 1000001) ?_)
 intro v110 a DV uC hE hp hS
 replace hO:=hO.m2 hE
 replace h105:=h105.m1 hE
 obtain ⟨fT,hr⟩:∃ r,b6 ((gi o_.Rows i_).Result) 1000001=r:=⟨_,rfl⟩
 replace hm:=hm fT hr
 rw [hr] at hp
 clear hr
 subst hp
 refine ePe T hS [35,36] [(33,B (!fT))] fun a hS=>?_
 refine aJ hS (b:=(!fT)) kr (fun hb=>?_) fun hb=>?_
 ·replace hm:=hm.1 hb
  refine rP T hS ⟨[(4,I 7)],[]⟩ fun a hS=>?_
  refine aY ?_
  exact fin T hS hO (fun c=>c) rfl (r:=[.int .i64 7]) kr (fun X' hM hC=>⟨7,hm,rfl⟩)
 replace hm:=hm.2 hb
 refine cb (fun a w=>∃ (Z:Nat->Nat) (X:Nat->Nat) (iL:Bool),VC82_J2 Q iL/\St Tryz.f82.ntmps ⟨[(38,B iL)],[]⟩ Z a w X/\Old w0 X0 w X) ?_ ?_
 ·refine iB [3,6] mixed hS ?_
  intro pV uB hS hE hD hH
  replace hO:=hO.m2 hE
  replace h105:=h105.m1 hE
  refine tke T [0,1,2] [3,6] hS hH #[true,true,true,false,false,false,false,false,false,false,false,false,false,false] 11 [] [(41,B (decide (i_ > 0)))] fun a hS=>?_
  rcases bft (decide (i_ > 0)) with hb | hb
  ·replace hS:=hS.lit (t:=41) kr hb
   replace hm:=hm.1 hb
   refine tke T [3,5,9,4,6] [3,6] hS hH #[true,true,true,true,true,true,true,false,false,true,false,false,false,false] 6 [1,2,5] [(43,Sl a1 o_.Rows c1),(45,I (wR (i_ - 1))),(48,V (.agg #[.int .i64 ((gi o_.Rows i_).State),.int .i64 ((gi o_.Rows i_).Kind),.int .i64 ((gi o_.Rows i_).Next),.int .i64 ((gi o_.Rows i_).Result)]))] fun a hS=>?_
   obtain ⟨hq,hm⟩:=hm
   refine dm (e:=107) (k:=.i64) T 7 hS kr kr kr (by rfl) kr hH kr kr h105 kr kr hq.1 hq.2 ?_
   intro Ob a h118 hS
   have Jr:=h118.here
   refine ku T 8 hS kr kr kr (by rfl) kr hH kr h118 Jr kr kr ?_
   intro v119 a hv hS
   subst hv
   refine only 10 kr (by rfl) (call hS kr kr hb96 kr (fun _ _=>rfl) (Lw _ _ (gi o_.Rows (wR (i_ - 1))) (gi o_.Rows i_)) ?_)
   intro v120 a wS Dn hE hp hS
   replace hO:=hO.m2 hE
   replace hD:=hD.ev hE rfl
   replace h105:=h105.m1 hE
   replace h118:=h118.m1 hE
   obtain ⟨vf,hr⟩:∃ r,gv (gi o_.Rows (wR (i_ - 1))) (gi o_.Rows i_)=r:=⟨_,rfl⟩
   replace hm:=hm vf hr
   rw [hr] at hp
   clear hr
   subst hp
   replace hS:=hS.sle [] [(49,I vf)]
   refine di (bP.of hS (bks:=[3,6]) kr hD) ?_
   intro hH
   refine tke T [11,12,13] [3,6] hS hH (tts 14) 0 [41,43,45,48,46,47,49] [(38,B (decide (vf≥0)))] fun a hS=>?_
   refine aX kr ?_
   replace hS:=hS.sl ⟨[(38,B (decide (vf≥0)))],[]⟩
   exact ⟨Z,_,decide (vf≥0),hm,hS.sl _,hO⟩
  replace hS:=hS.lit (t:=41) kr hb
  replace hm:=hm.2 hb
  refine tke T [3,5,9,4,6,7,8,10,11,12,13] [3,6] hS hH (tts 14) 0 [1,2,5,41] [(38,B false)] fun a hS=>?_
  refine aX kr ?_
  replace hS:=hS.sl ⟨[(38,B false)],[]⟩
  exact ⟨Z,_,false,hm,hS.sl _,hO⟩
 rintro a zJ ⟨Z,x5,iL,hm,hS,hO⟩
 unfold VC82_J2 at hm
 refine aJ hS (b:=iL) kr (fun hb=>?_) fun hb=>?_
 ·replace hm:=hm.1 hb
  refine rPe T hS [38] [(4,I 32)] fun a hS=>?_
  refine aY ?_
  exact fin T hS hO (fun c=>c) rfl (r:=[.int .i64 32]) kr (fun X' hM hC=>⟨32,hm,rfl⟩)
 replace hm:=hm.2 hb
 refine aM ?_
 refine rPe T hS [38] [(4,I 0)] fun a hS=>?_
 refine aY ?_
 exact fin T hS hO (fun c=>c) rfl (r:=[.int .i64 0]) kr (fun X' hM hC=>⟨0,hm,rfl⟩)
theorem C82 (A5:S81) (Lw:S96) (v:∀ (o_:aj) (i_:Int),preRow o_ i_->VC82 o_ i_ (fun r=>r=ix o_ i_)):S82:=by
 intro w X o_ i_ a1 c1   hp h1
 refine (W82 A5 Lw w X o_ i_ a1 c1   _ (v o_ i_ hp) h1).mono ?_
 rintro _ _ _ _ ⟨r,rfl,h⟩
 exact h
theorem W53 (A5:S81) (LI:S82) (w0) (X0) (o_:aj) (a1) (c1) (Q:Int × Int->Prop) (hm:VC53 o_ Q) (h1:RS aC w0 X0 a1 o_.Rows c1) :
  Ret Tryz.prog 53 #[.agg #[.int .i64 o_.au,.int .i64 o_.az,.int .i64 o_.aH,.slice a1 o_.Rows.length c1]] aL w0 X0 (fun w X' v=>∃ r,Q r/\v=.tuple #[.int .i64 r.1,.int .i64 r.2]):=by
 unfold VC53 at hm
 replace hm:=hm (h1.sm kr)
 refine enter Tryz.func53 rfl (vals:=[.agg #[.int .i64 o_.au,.int .i64 o_.az,.int .i64 o_.aH,.slice a1 o_.Rows.length c1]]) kr ?_
 intro Z a hS hO hM
 replace h1:=h1.m0 hM
 refine rM T hS ⟨[(1,Pt 2 0)],[(2,(48,(cO o_ a1 c1)))]⟩ fun Z a rV sb hS hE hr=>?_
 replace hO:=hO.m2 hE
 replace h1:=h1.m1 hE
 clear hE hr
 refine bg ?_
 refine cb (fun a w=>∃ (Z:Nat->Nat) (X:Nat->Nat) (bE:Bool),VC53_J1 o_ Q bE/\St Tryz.f53.ntmps ⟨[(1,Pt 2 0),(25,B bE)],[(2,(48,(cO o_ a1 c1)))]⟩ Z a w X/\Old w0 X0 w X/\RS aC w X a1 o_.Rows c1) ?_ ?_
 ·refine region ?_
  refine oPe T hS 3 [] [(8,I (wR (o_.au - 1)))] fun a hS=>?_
  refine op1 (call hS kr kr hb81 kr (fun _ _=>rfl) (A5 _ _ (wR (o_.au - 1)) 32) ?_)
  intro v114 a pV uB hE hp hS
  replace hO:=hO.m2 hE
  replace h1:=h1.m1 hE
  obtain ⟨eN,hr⟩:∃ r,b6 (wR (o_.au - 1)) 32=r:=⟨_,rfl⟩
  replace hm:=hm eN hr
  rw [hr] at hp
  clear hr
  subst hp
  refine oPe T hS 2 [8,9] [(11,B (!eN))] fun a hS=>?_
  rcases bft (!eN) with hb | hb
  ·replace hS:=hS.lit (t:=11) kr hb
   replace hm:=hm.1 hb
   refine ePe T hS [11] [(25,B true)] fun a hS=>?_
   exact ⟨Z,_,true,hm,hS.sl _,hO,h1⟩
  replace hS:=hS.lit (t:=11) kr hb
  replace hm:=hm.2 hb
  refine oPe T hS 3 [] [(14,I (wR (o_.az - 1)))] fun a hS=>?_
  refine op1 (call hS kr kr hb81 kr (fun _ _=>rfl) (A5 _ _ (wR (o_.az - 1)) 64) ?_)
  intro v118 a uL A0 hE hp hS
  replace hO:=hO.m2 hE
  replace h1:=h1.m1 hE
  obtain ⟨e8,hr⟩:∃ r,b6 (wR (o_.az - 1)) 64=r:=⟨_,rfl⟩
  replace hm:=hm e8 hr
  rw [hr] at hp
  clear hr
  subst hp
  refine oPe T hS 3 [11,14,15] [(18,B (!e8))] fun a hS=>?_
  rcases bft (!e8) with hb | hb
  ·replace hS:=hS.lit (t:=18) kr hb
   replace hm:=hm.1 hb
   refine ePe T hS [18] [(25,B true)] fun a hS=>?_
   exact ⟨Z,_,true,hm,hS.sl _,hO,h1⟩
  replace hS:=hS.lit (t:=18) kr hb
  replace hm:=hm.2 hb
  refine oPe T hS 4 [] [(20,I o_.aH),(22,I o_.au)] fun a hS=>?_
  refine op1 (call hS kr kr hb81 kr (fun _ _=>rfl) (A5 _ _ o_.aH o_.au) ?_)
  intro v122 a Gi x5 hE hp hS
  replace hO:=hO.m2 hE
  replace h1:=h1.m1 hE
  obtain ⟨z6,hr⟩:∃ r,b6 o_.aH o_.au=r:=⟨_,rfl⟩
  replace hm:=hm z6 hr
  rw [hr] at hp
  clear hr
  subst hp
  refine ePe T hS [18,20,22,23] [(25,B (!z6))] fun a hS=>?_
  exact ⟨Z,_,(!z6),hm,hS.sl _,hO,h1⟩
 rintro a uJ ⟨Z,x4,bE,hm,hS,hO,h102⟩
 unfold VC53_J1 at hm
 refine aJ hS (b:=bE) kr (fun hb=>?_) fun hb=>?_
 ·replace hm:=hm.1 hb
  refine rP T hS ⟨[(2,I (-1)),(3,I 2)],[]⟩ fun a hS=>?_
  refine aY ?_
  exact fin T hS hO (fun c=>c) rfl (r:=[.int .i64 (-1),.int .i64 2]) kr (fun X' hM hC=>⟨((-1),2),hm,rfl⟩)
 replace hm:=hm.2 hb
 refine aM ?_
 refine cb (fun a w=>∃ Z X,VC53_J2 o_ Q/\St Tryz.f53.ntmps ⟨[(1,Pt 2 0)],[(2,(48,(cO o_ a1 c1)))]⟩ Z a w X/\Old w0 X0 w X/\RS aC w X a1 o_.Rows c1) ?_ ?_
 ·refine rPe T hS [25] [(28,I (lN o_.Rows)),(29,I 0)] fun a hS=>?_
  refine aN ?_
  obtain ⟨I1,μ1,cx,hm⟩:=hm
  refine ct (σ:=Int) (fun s a w=>∃ Z X,I1 s/\St Tryz.f53.ntmps ⟨[(1,Pt 2 0),(28,I (lN o_.Rows)),(29,I s)],[(2,(48,(cO o_ a1 c1)))]⟩ Z a w X/\Old w0 X0 w X/\RS aC w X a1 o_.Rows c1) (fun s=>μ1 s) (0) ?_ ?_
  ·exact ⟨Z,_,cx,hS.sl _,hO,h102⟩
  rintro ir a DV ⟨Z,sc,hI,hS,hO,h105⟩
  replace hm:=hm ir hI
  clear hI cx
  refine rPe T hS [] [(30,B (decide (ir < (lN o_.Rows))))] fun a hS=>?_
  refine bg ?_
  refine aJ hS (b:=decide (ir < (lN o_.Rows))) kr (fun hb=>?_) fun hb=>?_
  ·replace hm:=hm.1 hb
   refine aM (bg ?_)
   refine aN ?_
   refine rPe T hS [30] [(4,I ir)] fun a hS=>?_
   refine bq ?_
   refine oPe T hS 2 [] [(32,V (.agg #[.int .i64 o_.au,.int .i64 o_.az,.int .i64 o_.aH,.slice a1 o_.Rows.length c1])),(33,I ir)] fun a hS=>?_
   obtain ⟨hq,hm⟩:=hm
   refine op1 (call hS kr kr hb82 kr (fun _ _=>rfl) (LI _ _ o_ ir a1 c1 hq h105) ?_)
   intro v106 a rW qa hE hp hS
   replace hO:=hO.m2 hE
   replace h105:=h105.m1 hE
   obtain ⟨jg,hr⟩:∃ r,ix o_ ir=r:=⟨_,rfl⟩
   replace hm:=hm jg hr
   rw [hr] at hp
   clear hr
   subst hp
   refine ePe T hS [32,33,34] [(5,I jg)] fun a hS=>?_
   refine rPe T hS [] [(36,B (jg != 0))] fun a hS=>?_
   refine aJ hS (b:=(jg != 0)) kr (fun hb=>?_) fun hb=>?_
   ·replace hm:=hm.1 hb
    refine rP T hS ⟨[(2,I ir),(3,I jg)],[]⟩ fun a hS=>?_
    refine aY ?_
    exact fin T hS hO (fun c=>c) rfl (r:=[.int .i64 ir,.int .i64 jg]) kr (fun X' hM hC=>⟨(ir,jg),hm,rfl⟩)
   replace hm:=hm.2 hb
   refine aM ?_
   refine region (ePe T hS [4,5,36] [(29,I (wR (ir+1)))] fun a hS=>?_)
   exact ⟨wR (ir+1),⟨Z,_,hm.1,hS.sl _,hO,h105⟩,hm.2⟩
  replace hm:=hm.2 hb
  refine cm (by rfl) ?_
  exact ⟨Z,_,hm,hS.sl _,hO,h105⟩
 rintro a uM ⟨Z,uC,hm,hS,hO,h103⟩
 unfold VC53_J2 at hm
 refine rP T hS ⟨[(2,I (lN o_.Rows)),(3,I 0)],[]⟩ fun a hS=>?_
 refine aY ?_
 exact fin T hS hO (fun c=>c) rfl (r:=[.int .i64 (lN o_.Rows),.int .i64 0]) kr (fun X' hM hC=>⟨((lN o_.Rows),0),hm,rfl⟩)
theorem C53 (A5:S81) (LI:S82) (v:∀ (o_:aj),kL o_->VC53 o_ (fun r=>r=bB o_)):S53:=by
 intro w X o_ a1 c1   hp h1
 refine (W53 A5 LI w X o_ a1 c1   _ (v o_ hp) h1).mono ?_
 rintro _ _ _ _ ⟨r,rfl,h⟩
 exact h
theorem W85 (tY:S53) (w0) (X0) (o_:aj) (state:Int) (a1) (c1) (Q:Int->Prop) (hm:VC85 o_ state Q) (h1:RS aC w0 X0 a1 o_.Rows c1) :
  Ret Tryz.prog 85 #[.agg #[.int .i64 o_.au,.int .i64 o_.az,.int .i64 o_.aH,.slice a1 o_.Rows.length c1],.int .i64 state] aL w0 X0 (fun w X' v=>∃ r,Q r/\v=.int .i64 r):=by
 unfold VC85 at hm
 replace hm:=hm (h1.sm kr)
 refine enter Tryz.func85 rfl (vals:=[.agg #[.int .i64 o_.au,.int .i64 o_.az,.int .i64 o_.aH,.slice a1 o_.Rows.length c1],.int .i64 state]) kr ?_
 intro Z a hS hO hM
 replace h1:=h1.m0 hM
 refine rM T hS ⟨[(1,I state),(2,Pt 3 0)],[(3,(48,(cO o_ a1 c1)))]⟩ fun Z a nz mi hS hE hr=>?_
 replace hO:=hO.m2 hE
 replace h1:=h1.m1 hE
 clear hE hr
 refine bg ?_
 refine bq ?_
 refine oPe T hS 1 [] [(8,V (.agg #[.int .i64 o_.au,.int .i64 o_.az,.int .i64 o_.aH,.slice a1 o_.Rows.length c1]))] fun a hS=>?_
 obtain ⟨hq,hm⟩:=hm
 refine op1 (call hS kr kr hb53 kr (fun _ _=>rfl) (tY _ _ o_ a1 c1 hq h1) ?_)
 intro v101 a fp fx hE hp hS
 replace hO:=hO.m2 hE
 replace h1:=h1.m1 hE
 obtain ⟨ax,hr⟩:∃ r,bB o_=r:=⟨_,rfl⟩
 replace hm:=hm ax hr
 rw [hr] at hp
 clear hr
 subst hp
 refine ePe T hS [8,9] [(6,I ax.2)] fun a hS=>?_
 refine rPe T hS [6] [(13,B (ax.2 != 0))] fun a hS=>?_
 refine aJ hS (b:=(ax.2 != 0)) kr (fun hb=>?_) fun hb=>?_
 ·replace hm:=hm.1 hb
  refine rP T hS ⟨[(4,I 2)],[]⟩ fun a hS=>?_
  refine aY ?_
  exact fin T hS hO (fun c=>c) rfl (r:=[.int .i64 2]) kr (fun X' hM hC=>⟨2,hm,rfl⟩)
 replace hm:=hm.2 hb
 refine aM (bg ?_)
 refine rP T hS ⟨[(21,B ((decide (state < 0)) || (decide (state≥o_.au))))],[]⟩ (sp:=[16]) fun a hS=>?_
 refine aJ hS (b:=((decide (state < 0)) || (decide (state≥o_.au)))) kr (fun hb=>?_) fun hb=>?_
 ·replace hm:=hm.1 hb
  refine rPe T hS [21] [(4,I 30)] fun a hS=>?_
  refine aY ?_
  exact fin T hS hO (fun c=>c) rfl (r:=[.int .i64 30]) kr (fun X' hM hC=>⟨30,hm,rfl⟩)
 replace hm:=hm.2 hb
 refine aM ?_
 refine rPe T hS [21] [(4,I 0)] fun a hS=>?_
 refine aY ?_
 exact fin T hS hO (fun c=>c) rfl (r:=[.int .i64 0]) kr (fun X' hM hC=>⟨0,hm,rfl⟩)
theorem C85 (tY:S53) (v:∀ (o_:aj) (state:Int),yw o_ state->VC85 o_ state (fun r=>r=fF o_ state)):S85:=by
 intro w X o_ state a1 c1   hp h1
 refine (W85 tY w X o_ state a1 c1   _ (v o_ state hp) h1).mono ?_
 rintro _ _ _ _ ⟨r,rfl,h⟩
 exact h
theorem W86 (w0) (X0) (o_:aj) (l_:List ab) (state:Int) (a1) (c1) (a2) (c2) (cU) (dV) (jI) (pa) (o9) (Q:(List ab) × (List (Int × Int)) × aj × Int->Prop) (hm:VC86 o_ l_ state Q) (h1:RS aC w0 X0 a1 o_.Rows c1) (h2:RS ar w0 X0 a2 l_ c2) :
  Ret Tryz.prog 86 #[.agg #[.int .i64 o_.au,.int .i64 o_.az,.int .i64 o_.aH,.slice a1 o_.Rows.length c1],.slice a2 l_.length c2,.int .i64 state] aL w0 X0 (fun w X' v=>∃ r,Q r/\∃ cz cy Iv pC pB u5 IA Iz Iy,v=.func (.func 97) #[] #[.pointer (some ⟨u5,0,none⟩),.pointer (some ⟨IA,0,none⟩),.pointer (some ⟨Iz,0,none⟩),.pointer (some ⟨Iy,0,none⟩)]/\RS ar w X' cz r.1 cy/\RS aC w X' pC r.2.2.1.Rows pB/\Cell w X' u5 dV 42 [.slice cz r.1.length cy]/\Cell w X' IA jI 113 [.map (some Iv)]/\OM kI tI false w X' cU Iv r.2.1/\Cell w X' Iz pa 48 [.int .i64 r.2.2.1.au,.int .i64 r.2.2.1.az,.int .i64 r.2.2.1.aH,.slice pC r.2.2.1.Rows.length pB]/\Cell w X' Iy o9 3 [.int .i64 r.2.2.2]):=by
 unfold VC86 at hm
 replace hm:=hm (h1.sm kr)
 replace hm:=hm (h2.sm kr)
 refine enter Tryz.func86 rfl (vals:=[.agg #[.int .i64 o_.au,.int .i64 o_.az,.int .i64 o_.aH,.slice a1 o_.Rows.length c1],.slice a2 l_.length c2,.int .i64 state]) kr ?_
 intro Z a hS hO hM
 replace h1:=h1.m0 hM
 replace h2:=h2.m0 hM
 refine rM T hS ⟨[(3,Pt 4 0),(4,Pt 5 0),(5,Pt 6 0)],[(4,(48,(cO o_ a1 c1))),(5,(42,[Sl a2 l_ c2])),(6,(3,[I state]))]⟩ fun Z a rW qa hS hE hr=>?_
 replace hO:=hO.m2 hE
 replace h1:=h1.m1 hE
 replace h2:=h2.m1 hE
 clear hE hr
 refine bq ?_
 refine op1 (pF kI tI false 1009 hS kr kr ?_)
 intro eB a fp fx hE h104 hS
 replace hO:=hO.m2 hE
 replace h1:=h1.m1 hE
 replace h2:=h2.m1 hE
 refine eM T hS ⟨[(3,Pt 4 0),(4,Pt 5 0),(5,Pt 6 0),(7,Pt 8 0)],[(4,(48,(cO o_ a1 c1))),(5,(42,[Sl a2 l_ c2])),(6,(3,[I state])),(8,(113,[V (.map (some eB))]))]⟩ fun Z a nz mi hS hE hr=>?_
 replace hO:=hO.m2 hE
 replace h1:=h1.m1 hE
 replace h2:=h2.m1 hE
 replace h104:=h104.m2 hE
 clear hE hr
 refine rPe T hS [3,4,5,7] [(6,.f (.func 97) [] [.p 5 0,.p 8 0,.p 4 0,.p 6 0])] fun a hS=>?_
 refine aY ?_
 exact fin T hS hO (zAa0 o9 pa jI dV cU) rfl (r:=[.func (.func 97) #[] #[.pointer (some ⟨Z 5,0,none⟩),.pointer (some ⟨Z 8,0,none⟩),.pointer (some ⟨Z 4,0,none⟩),.pointer (some ⟨Z 6,0,none⟩)]]) kr (fun X' hM hC=>⟨(l_,([]:List (Int × Int)),o_,state),hm,a2,c2,eB,a1,c1,(Z 5),(Z 8),(Z 4),(Z 6),rfl,h2.m0 hM,h1.m0 hM,((hS.cell (id:=5) (t:=42) (cs:=[Sl a2 l_ c2]) kr).out (f:=(zAa0 o9 pa jI dV cU)) hC kr kr rfl),((hS.cell (id:=8) (t:=113) (cs:=[V (.map (some eB))]) kr).out (f:=(zAa0 o9 pa jI dV cU)) hC kr kr rfl),(h104.out (f:=(zAa0 o9 pa jI dV cU)) hM hC kr kr),((hS.cell (id:=4) (t:=48) (cs:=(cO o_ a1 c1)) kr).out (f:=(zAa0 o9 pa jI dV cU)) hC kr kr rfl),((hS.cell (id:=6) (t:=3) (cs:=[I state]) kr).out (f:=(zAa0 o9 pa jI dV cU)) hC kr kr rfl)⟩)
theorem C86 (v:∀ (o_:aj) (l_:List ab) (state:Int),VC86 o_ l_ state (fun r=>r=eD o_ l_ state)):S86:=by
 intro w X o_ l_ state a1 c1 a2 c2 cU dV jI pa o9  h1 h2
 refine (W86 w X o_ l_ state a1 c1 a2 c2 cU dV jI pa o9  _ (v o_ l_ state) h1 h2).mono ?_
 rintro _ _ _ _ ⟨r,rfl,h⟩
 exact h
theorem W110 (w0) (X0) (r_:bb) (ao:Int) (ay:Int) (b1) (i1) (b2) (i2) (Q:Bool->Prop) (hm:VC110 r_ ao ay Q) (fB:Cell w0 X0 b1 i1 3 [.int .i64 ao]) (gO:Cell w0 X0 b2 i2 3 [.int .i64 ay]) (hA:dZ [i1,i2]) :
  Ret Tryz.prog 110 #[.agg #[.int .i64 r_.State,.int .i64 r_.Kind,.int .i64 r_.Next,.int .i64 r_.Result],.pointer (some ⟨b1,0,none⟩),.pointer (some ⟨b2,0,none⟩)] (pR [i1,i2]) w0 X0 (fun w X' v=>∃ r,Q r/\v=.bool r/\Cell w X' b1 i1 3 [.int .i64 ao]/\Cell w X' b2 i2 3 [.int .i64 ay]):=by
 unfold VC110 at hm
 refine fO Tryz.func110 rfl (dL [(i1,901),(i2,902)]) (fun id=>(bif Nat.beq id 901 then b1 else (bif Nat.beq id 902 then b2 else 0))) (args:=[V (.agg #[.int .i64 r_.State,.int .i64 r_.Kind,.int .i64 r_.Next,.int .i64 r_.Result]),Pt 901 0,Pt 902 0]) (bxs:=[(901,(3,[I ao])),(902,(3,[I ay]))]) kr rfl (bu.cons kr (fB.map (bQ 0 hA.1 rfl)) (bu.cons kr (gO.map (bQ 1 hA.1 rfl)) bu.nil)) (fD (fun q hq=>(hA.2 q.1 (List.mem_map.2 ⟨q,hq,rfl⟩)).1)) ?_
 intro a hS hO hM
 have hP:Pin [(901,b1),(902,b2)] (fun id=>(bif Nat.beq id 901 then b1 else (bif Nat.beq id 902 then b2 else 0))):=by intro q hq; simp at hq; rcases hq with rfl | rfl <;> rfl
 generalize (fun id=>(bif Nat.beq id 901 then b1 else (bif Nat.beq id 902 then b2 else 0)))=Z at hS hP
 clear fB gO
 refine rM T hS ⟨[(1,Pt 901 0),(2,Pt 902 0),(3,Pt 4 0)],[(4,(107,(cR r_))),(901,(3,[I ao])),(902,(3,[I ay]))]⟩ fun Z a oO pw hS hE hr=>?_
 replace hO:=hO.m2 hE
 replace hP:=hP.mv hr kr
 clear hE hr
 refine bq ?_
 refine oP T hS 8 ⟨[(5,V (.agg #[.int .i64 r_.State,.int .i64 r_.Kind,.int .i64 r_.Next,.int .i64 r_.Result])),(12,V (.agg #[.int .i64 ao,.int .i64 ay,.int .i64 r_.Next,.int .i64 r_.Result]))],[(901,(3,[I ao])),(902,(3,[I ay]))]⟩ fun a hS=>?_
 refine op1 (structEq (op:=.eql) (xs:=[.int .i64 r_.State,.int .i64 r_.Kind,.int .i64 r_.Next,.int .i64 r_.Result]) (ys:=[.int .i64 ao,.int .i64 ay,.int .i64 r_.Next,.int .i64 r_.Result]) (r:=(r_.State == ao && (r_.Kind == ay && (r_.Next == r_.Next && (r_.Result == r_.Result && true))))) (b:=(r_.State == ao && (r_.Kind == ay && (r_.Next == r_.Next && (r_.Result == r_.Result && true))))) T hS kr kr kr kr kr kr kr kr ?_)
 intro a hS
 refine ePe T hS [5,12,13] [(4,B (r_.State == ao && (r_.Kind == ay && (r_.Next == r_.Next && (r_.Result == r_.Result && true)))))] fun a hS=>?_
 refine aY ?_
 exact gW T hS hO (fun c h=>b0 kr h) (fun c h=>b5 (l:=[(i1,901),(i2,902)]) h) (bU [(i1,901),(i2,902)]) rfl (r:=[.bool (r_.State == ao && (r_.Kind == ay && (r_.Next == r_.Next && (r_.Result == r_.Result && true))))]) kr (fun X' hM hC=>⟨(r_.State == ao && (r_.Kind == ay && (r_.Next == r_.Next && (r_.Result == r_.Result && true)))),hm,rfl,((hS.cell (id:=901) (t:=3) (cs:=[I ao]) kr).out (f:=(bU [(i1,901),(i2,902)])) hC kr kr (hP.at 0 rfl)),((hS.cell (id:=902) (t:=3) (cs:=[I ay]) kr).out (f:=(bU [(i1,901),(i2,902)])) hC kr kr (hP.at 1 rfl))⟩)
theorem C110 (v:∀ (r_:bb) (ao:Int) (ay:Int),VC110 r_ ao ay (fun r=>r=gE r_ ao ay)):S110:=by
 intro w X r_ ao ay   b1 i1 b2 i2 fB gO hA
 refine (W110 w X r_ ao ay   b1 i1 b2 i2 _ (v r_ ao ay) fB gO hA).mono ?_
 rintro _ _ _ _ ⟨r,rfl,h⟩
 exact h
theorem W111_110 (GW:S110) (w0) (X0) (s_:List bb) (ao:Int) (ay:Int) (a1) (c1) (b1) (i1) (b2) (i2) (Q:Int->Prop) (hm:VC111_110 s_ ao ay Q) (h1:RS aC w0 X0 a1 s_ c1) (fB:Cell w0 X0 b1 i1 3 [.int .i64 ao]) (gO:Cell w0 X0 b2 i2 3 [.int .i64 ay]) (hA:dZ [i1,i2]) :
  Ret Tryz.prog 111 #[.slice a1 s_.length c1,.func (.func 110) #[] #[.pointer (some ⟨b1,0,none⟩),.pointer (some ⟨b2,0,none⟩)]] (pR [i1,i2]) w0 X0 (fun w X' v=>∃ r,Q r/\v=.int .i64 r/\Cell w X' b1 i1 3 [.int .i64 ao]/\Cell w X' b2 i2 3 [.int .i64 ay]):=by
 unfold VC111_110 at hm
 replace hm:=hm (h1.sm kr)
 refine fO Tryz.func111 rfl (dL [(i1,901),(i2,902)]) (fun id=>(bif Nat.beq id 901 then b1 else (bif Nat.beq id 902 then b2 else 0))) (args:=[Sl a1 s_ c1,.f (.func 110) [] [.p 901 0,.p 902 0]]) (bxs:=[(901,(3,[I ao])),(902,(3,[I ay]))]) kr rfl (bu.cons kr (fB.map (bQ 0 hA.1 rfl)) (bu.cons kr (gO.map (bQ 1 hA.1 rfl)) bu.nil)) (fD (fun q hq=>(hA.2 q.1 (List.mem_map.2 ⟨q,hq,rfl⟩)).1)) ?_
 intro a hS hO hM
 have hP:Pin [(901,b1),(902,b2)] (fun id=>(bif Nat.beq id 901 then b1 else (bif Nat.beq id 902 then b2 else 0))):=by intro q hq; simp at hq; rcases hq with rfl | rfl <;> rfl
 generalize (fun id=>(bif Nat.beq id 901 then b1 else (bif Nat.beq id 902 then b2 else 0)))=Z at hS hP
 clear fB gO
 replace h1:=h1.m0 hM
 refine rPe T hS [] [] fun a hS=>?_
 refine cb (fun a w=>∃ Z X,VC111_110_J1 Q/\St Tryz.f111.ntmps ⟨[],[(901,(3,[I ao])),(902,(3,[I ay]))]⟩ Z a w X/\gj (dL [(i1,901),(i2,902)]) w0 X0 w X/\Pin [(901,b1),(902,b2)] Z) ?_ ?_
 ·refine rPe T hS [] [(7,I (lN s_)),(8,I 0)] fun a hS=>?_
  refine aN ?_
  obtain ⟨I1,μ1,cx,hm⟩:=hm
  refine ct (σ:=Int) (fun s a w=>∃ Z X,I1 s/\St Tryz.f111.ntmps ⟨[(0,Sl a1 s_ c1),(1,.f (.func 110) [] [.p 901 0,.p 902 0]),(7,I (lN s_)),(8,I s)],[(901,(3,[I ao])),(902,(3,[I ay]))]⟩ Z a w X/\gj (dL [(i1,901),(i2,902)]) w0 X0 w X/\Pin [(901,b1),(902,b2)] Z/\RS aC w X a1 s_ c1) (fun s=>μ1 s) (0) ?_ ?_
  ·exact ⟨Z,_,cx,hS.sl _,hO,hP,h1⟩
  rintro bC a uM ⟨Z,uC,hI,hS,hO,hP,h101⟩
  replace hm:=hm bC hI
  clear hI cx
  refine rPe T hS [] [(9,B (decide (bC < (lN s_))))] fun a hS=>?_
  refine bg ?_
  refine aJ hS (b:=decide (bC < (lN s_))) kr (fun hb=>?_) fun hb=>?_
  ·replace hm:=hm.1 hb
   refine aM (bg ?_)
   refine aN ?_
   refine rPe T hS [9] [(5,I bC)] fun a hS=>?_
   refine bq ?_
   refine oPe T hS 3 [] [(11,.f (.func 110) [] [.p 901 0,.p 902 0]),(12,Sl a1 s_ c1),(13,I bC)] fun a hS=>?_
   obtain ⟨hq,hm⟩:=hm
   refine op1 (index (e:=107) (k:=.i64) T hS kr kr kr kr h101 kr kr hq.1 hq.2 ?_)
   intro uE a h104 hS
   refine op1 (eU T hS kr kr kr h104 kr kr ?_)
   intro v105 a hv hS
   subst hv
   refine op1 (kx (fi:=[]) (cp:=[.p 901 0,.p 902 0]) hS kr kr hb110 kr kr (GW _ _ (gi s_ bC) ao ay (Z 901) 901 (Z 902) 902 (hS.cell (id:=901) (t:=3) (cs:=[I ao]) kr) (hS.cell (id:=902) (t:=3) (cs:=[I ay]) kr) ⟨by decide,by decide⟩) ?_)
   intro v106 a rW qa hE hp hS
   replace hO:=hO.m2 hE
   replace h101:=h101.m1 hE
   replace h104:=h104.m1 hE
   obtain ⟨hp,vD,vC⟩:=hp
   obtain ⟨jg,hr⟩:∃ r,gE (gi s_ bC) ao ay=r:=⟨_,rfl⟩
   replace hm:=hm jg hr
   rw [hr] at hp
   clear hr
   subst hp
   replace hS:=hS.cQ (id:=901) (t:=3) (cs:=[I ao]) kr vD
   replace hS:=hS.cQ (id:=902) (t:=3) (cs:=[I ay]) kr vC
   clear vD vC
   refine gY ?_
   refine aJ hS (b:=jg) kr (fun hb=>?_) fun hb=>?_
   ·replace hm:=hm.1 hb
    refine rPe T hS [0,1,5,7,8,16] [(4,I bC)] fun a hS=>?_
    refine aY ?_
    exact gW T hS hO (fun c h=>b0 kr h) (fun c h=>b5 (l:=[(i1,901),(i2,902)]) h) (bU [(i1,901),(i2,902)]) rfl (r:=[.int .i64 bC]) kr (fun X' hM hC=>⟨bC,hm,rfl,((hS.cell (id:=901) (t:=3) (cs:=[I ao]) kr).out (f:=(bU [(i1,901),(i2,902)])) hC kr kr (hP.at 0 rfl)),((hS.cell (id:=902) (t:=3) (cs:=[I ay]) kr).out (f:=(bU [(i1,901),(i2,902)])) hC kr kr (hP.at 1 rfl))⟩)
   replace hm:=hm.2 hb
   refine aM ?_
   refine region (ePe T hS [5,16] [(8,I (wR (bC+1)))] fun a hS=>?_)
   exact ⟨wR (bC+1),⟨Z,_,hm.1,hS.sl _,hO,hP,h101⟩,hm.2⟩
  replace hm:=hm.2 hb
  refine cm (by rfl) ?_
  exact ⟨Z,_,hm,hS.sl _,hO,hP⟩
 rintro a pV ⟨Z,wC,hm,hS,hO,hP⟩
 unfold VC111_110_J1 at hm
 refine rPe T hS [] [(4,I (-1))] fun a hS=>?_
 refine aY ?_
 exact gW T hS hO (fun c h=>b0 kr h) (fun c h=>b5 (l:=[(i1,901),(i2,902)]) h) (bU [(i1,901),(i2,902)]) rfl (r:=[.int .i64 (-1)]) kr (fun X' hM hC=>⟨(-1),hm,rfl,((hS.cell (id:=901) (t:=3) (cs:=[I ao]) kr).out (f:=(bU [(i1,901),(i2,902)])) hC kr kr (hP.at 0 rfl)),((hS.cell (id:=902) (t:=3) (cs:=[I ay]) kr).out (f:=(bU [(i1,901),(i2,902)])) hC kr kr (hP.at 1 rfl))⟩)
theorem C111_110 (GW:S110) (v:∀ (s_:List bb) (ao:Int) (ay:Int),VC111_110 s_ ao ay (fun r=>r=bk s_ ao ay)):S111_110:=by
 intro w X s_ ao ay a1 c1  b1 i1 b2 i2 h1 fB gO hA
 refine (W111_110 GW w X s_ ao ay a1 c1  b1 i1 b2 i2 _ (v s_ ao ay) h1 fB gO hA).mono ?_
 rintro _ _ _ _ ⟨r,rfl,h⟩
 exact h
theorem W103 (ri:S111_110) (w0) (X0) (o_:aj) (state:Int) (kind:Int) (a1) (c1) (Q:Int × Int × Bool->Prop) (hm:VC103 o_ state kind Q) (h1:RS aC w0 X0 a1 o_.Rows c1) :
  Ret Tryz.prog 103 #[.agg #[.int .i64 o_.au,.int .i64 o_.az,.int .i64 o_.aH,.slice a1 o_.Rows.length c1],.int .i64 state,.int .i64 kind] aL w0 X0 (fun w X' v=>∃ r,Q r/\v=.tuple #[.int .i64 r.1,.int .i64 r.2.1,.bool r.2.2]):=by
 unfold VC103 at hm
 replace hm:=hm (h1.sm kr)
 refine enter Tryz.func103 rfl (vals:=[.agg #[.int .i64 o_.au,.int .i64 o_.az,.int .i64 o_.aH,.slice a1 o_.Rows.length c1],.int .i64 state,.int .i64 kind]) kr ?_
 intro Z a hS hO hM
 replace h1:=h1.m0 hM
 refine rM T hS ⟨[(3,Pt 4 0),(4,Pt 5 0),(5,Pt 6 0)],[(4,(48,(cO o_ a1 c1))),(5,(3,[I state])),(6,(3,[I kind]))]⟩ fun Z a uL A0 hS hE hr=>?_
 replace hO:=hO.m2 hE
 replace h1:=h1.m1 hE
 clear hE hr
 refine rPe T hS [4,5] [(9,.f (.func 110) [] [.p 5 0,.p 6 0])] fun a hS=>?_
 refine bq ?_
 refine oPe T hS 3 [9] [(13,Sl a1 o_.Rows c1),(14,.f (.func 110) [] [.p 5 0,.p 6 0])] fun a hS=>?_
 refine op1 (ma hS kr kr hb111 kr (ri _ _ o_.Rows state kind a1 c1 (Z 5) 5 (Z 6) 6 h1 (hS.cell (id:=5) (t:=3) (cs:=[I state]) kr) (hS.cell (id:=6) (t:=3) (cs:=[I kind]) kr) ⟨by decide,by decide⟩) ?_)
 intro v101 a fp fx hE hp hS
 replace hO:=hO.m2 hE
 replace h1:=h1.m1 hE
 obtain ⟨hp,vF,vE⟩:=hp
 obtain ⟨ax,hr⟩:∃ r,bk o_.Rows state kind=r:=⟨_,rfl⟩
 replace hm:=hm ax hr
 rw [hr] at hp
 clear hr
 subst hp
 replace hS:=hS.cQ (id:=5) (t:=3) (cs:=[I state]) kr vF
 replace hS:=hS.cQ (id:=6) (t:=3) (cs:=[I kind]) kr vE
 clear vF vE
 refine eP T hS ⟨[(3,Pt 4 0),(10,I ax)],[(4,(48,(cO o_ a1 c1)))]⟩ fun a hS=>?_
 refine bg ?_
 refine rPe T hS [] [(17,B (decide (ax < 0)))] fun a hS=>?_
 refine aJ hS (b:=decide (ax < 0)) kr (fun hb=>?_) fun hb=>?_
 ·replace hm:=hm.1 hb
  refine rP T hS ⟨[(6,I 0),(7,I 0),(8,B false)],[]⟩ fun a hS=>?_
  refine aY ?_
  exact fin T hS hO (fun c=>c) rfl (r:=[.int .i64 0,.int .i64 0,.bool false]) kr (fun X' hM hC=>⟨(0,0,false),hm,rfl⟩)
 replace hm:=hm.2 hb
 refine aM ?_
 refine dG [4] mixed hS ?_
 intro rW qa hS hE hD hH
 replace hO:=hO.m2 hE
 replace h1:=h1.m1 hE
 refine tke T [0,2,6,8,1,7] [4] hS hH #[true,true,true,false,false,false,true,true,true,false,false,false,false,false,false] 9 [3,10] [(19,Sl a1 o_.Rows c1),(20,I ax),(25,Sl a1 o_.Rows c1),(26,I ax)] fun a hS=>?_
 obtain ⟨hq,hm⟩:=hm
 refine dm (e:=107) (k:=.i64) T 3 hS kr kr kr (by rfl) kr hH kr kr h1 kr kr hq.1 hq.2 ?_
 intro A4 a h110 hS
 have mC:=h110.here
 refine dE (off:=2) (fsz:=1) (ft:=3) (TF:=tI) (y:=(gi o_.Rows ax).Next) 4 T hS kr kr kr (by rfl) kr hH kr h110 kr kr kr (fun cs h=>rQ h) ?_
 intro Dv a h112 fR hS
 have zl:=mC
 rw [← fR] at zl
 clear fR
 refine eu T 5 hS kr kr kr (by rfl) kr hH kr h112 zl rfl kr ?_
 intro v113 a hv hS
 cases hv
 refine tke T [12] [4] hS hH #[true,true,true,true,true,true,true,true,true,false,false,false,true,false,false] 5 [19,20,21,22,23] [(6,I ((gi o_.Rows ax).Next))] fun a hS=>?_
 obtain ⟨hq,hm⟩:=hm
 refine dm (e:=107) (k:=.i64) T 9 hS kr kr kr (by rfl) kr hH kr kr h1 kr kr hq.1 hq.2 ?_
 intro E9 a h115 hS
 have rp:=h115.here
 refine dE (off:=3) (fsz:=1) (ft:=3) (TF:=tI) (y:=(gi o_.Rows ax).Result) 10 T hS kr kr kr (by rfl) kr hH kr h115 kr kr kr (fun cs h=>rO h) ?_
 intro HO a h117 fR hS
 have ov:=rp
 rw [← fR] at ov
 clear fR
 refine eu T 11 hS kr kr kr (by rfl) kr hH kr h117 ov rfl kr ?_
 intro v118 a hv hS
 cases hv
 refine tke T [13,14] [4] hS hH (tts 15) 0 [25,26,27,28,29] [(7,I ((gi o_.Rows ax).Result)),(8,B true)] fun a hS=>?_
 refine aX kr ?_
 replace hS:=hS.sl ⟨[(6,I ((gi o_.Rows ax).Next)),(7,I ((gi o_.Rows ax).Result)),(8,B true)],[]⟩
 refine aY ?_
 exact fin T hS hO (fun c=>c) rfl (r:=[.int .i64 ((gi o_.Rows ax).Next),.int .i64 ((gi o_.Rows ax).Result),.bool true]) kr (fun X' hM hC=>⟨((gi o_.Rows ax).Next,(gi o_.Rows ax).Result,true),hm,rfl⟩)
theorem C103 (ri:S111_110) (v:∀ (o_:aj) (state:Int) (kind:Int),VC103 o_ state kind (fun r=>r=cw o_ state kind)):S103:=by
 intro w X o_ state kind a1 c1   h1
 refine (W103 ri w X o_ state kind a1 c1   _ (v o_ state kind) h1).mono ?_
 rintro _ _ _ _ ⟨r,rfl,h⟩
 exact h
theorem W109 (rj:S103) (w0) (X0) (t_:ie) (state:Int) (kind:Int) (a1) (c1) (Q:Int × Int × Bool->Prop) (hm:VC109 t_ state kind Q) (h1:RS aC w0 X0 a1 t_.o.Rows c1) :
  Ret Tryz.prog 109 #[.agg #[.int .i64 t_.o.au,.int .i64 t_.o.az,.int .i64 t_.o.aH,.slice a1 t_.o.Rows.length c1],.int .i64 state,.int .i64 kind] aL w0 X0 (fun w X' v=>∃ r,Q r/\v=.tuple #[.int .i64 r.1,.int .i64 r.2.1,.bool r.2.2]):=by
 unfold VC109 at hm
 replace hm:=hm (h1.sm kr)
 refine enter Tryz.func109 rfl (vals:=[.agg #[.int .i64 t_.o.au,.int .i64 t_.o.az,.int .i64 t_.o.aH,.slice a1 t_.o.Rows.length c1],.int .i64 state,.int .i64 kind]) kr ?_
 intro Z a hS hO hM
 replace h1:=h1.m0 hM
 refine rM T hS ⟨[(1,I state),(2,I kind),(3,Pt 4 0)],[(4,(174,(cO t_.o a1 c1)))]⟩ fun Z a nz mi hS hE hr=>?_
 replace hO:=hO.m2 hE
 replace h1:=h1.m1 hE
 clear hE hr
 refine bq ?_
 refine oP T hS 4 ⟨[(10,V (.agg #[.int .i64 t_.o.au,.int .i64 t_.o.az,.int .i64 t_.o.aH,.slice a1 t_.o.Rows.length c1])),(11,I state),(12,I kind)],[]⟩ fun a hS=>?_
 refine op1 (call hS kr kr hb103 kr (fun _ _=>rfl) (rj _ _ t_.o state kind a1 c1 h1) ?_)
 intro v101 a fp fx hE hp hS
 replace hO:=hO.m2 hE
 replace h1:=h1.m1 hE
 obtain ⟨ax,hr⟩:∃ r,cw t_.o state kind=r:=⟨_,rfl⟩
 replace hm:=hm ax hr
 rw [hr] at hp
 clear hr
 subst hp
 refine ePe T hS [10,11,12,13] [(6,I ax.1),(7,I ax.2.1),(8,B ax.2.2)] fun a hS=>?_
 refine aY ?_
 exact fin T hS hO (fun c=>c) rfl (r:=[.int .i64 ax.1,.int .i64 ax.2.1,.bool ax.2.2]) kr (fun X' hM hC=>⟨(ax.1,ax.2.1,ax.2.2),hm,rfl⟩)
theorem C109 (rj:S103) (v:∀ (t_:ie) (state:Int) (kind:Int),VC109 t_ state kind (fun r=>r=eZ t_ state kind)):S109:=by
 intro w X t_ state kind a1 c1   h1
 refine (W109 rj w X t_ state kind a1 c1   _ (v t_ state kind) h1).mono ?_
 rintro _ _ _ _ ⟨r,rfl,h⟩
 exact h
theorem W98 (GX:S109) (w0) (X0) (o_:aj) (state:Int) (kind:Int) (result:Int) (a1) (c1) (Q:Int × Int->Prop) (hm:VC98 o_ state kind result Q) (h1:RS aC w0 X0 a1 o_.Rows c1) :
  Ret Tryz.prog 98 #[.agg #[.int .i64 o_.au,.int .i64 o_.az,.int .i64 o_.aH,.slice a1 o_.Rows.length c1],.int .i64 state,.int .i64 kind,.int .i64 result] aL w0 X0 (fun w X' v=>∃ r,Q r/\v=.tuple #[.int .i64 r.1,.int .i64 r.2]):=by
 unfold VC98 at hm
 replace hm:=hm (h1.sm kr)
 refine enter Tryz.func98 rfl (vals:=[.agg #[.int .i64 o_.au,.int .i64 o_.az,.int .i64 o_.aH,.slice a1 o_.Rows.length c1],.int .i64 state,.int .i64 kind,.int .i64 result]) kr ?_
 intro Z a hS hO hM
 replace h1:=h1.m0 hM
 refine rM T hS ⟨[(1,I state),(2,I kind),(3,I result),(4,Pt 5 0)],[(5,(48,(cO o_ a1 c1)))]⟩ fun Z a nz mi hS hE hr=>?_
 replace hO:=hO.m2 hE
 replace h1:=h1.m1 hE
 clear hE hr
 refine bg ?_
 refine rPe T hS [] [(20,B ((decide (state < 0)) || (decide (state≥o_.au))))] (sp:=[15]) fun a hS=>?_
 refine aJ hS (b:=((decide (state < 0)) || (decide (state≥o_.au)))) kr (fun hb=>?_) fun hb=>?_
 ·replace hm:=hm.1 hb
  refine rP T hS ⟨[(8,I 0),(9,I 30)],[]⟩ fun a hS=>?_
  refine aY ?_
  exact fin T hS hO (fun c=>c) rfl (r:=[.int .i64 0,.int .i64 30]) kr (fun X' hM hC=>⟨(0,30),hm,rfl⟩)
 replace hm:=hm.2 hb
 refine aM ?_
 refine rP T hS ⟨[(1,I state),(2,I kind),(3,I result),(10,.f (.func 109) [.v (.agg #[.int .i64 o_.au,.int .i64 o_.az,.int .i64 o_.aH,.slice a1 o_.Rows.length c1])] [])],[]⟩ fun a hS=>?_
 refine bq ?_
 refine oPe T hS 3 [1,2,10] [(25,.f (.func 109) [.v (.agg #[.int .i64 o_.au,.int .i64 o_.az,.int .i64 o_.aH,.slice a1 o_.Rows.length c1])] []),(26,I state),(27,I kind)] fun a hS=>?_
 refine op1 (F4 (fi:=[.v (.agg #[.int .i64 o_.au,.int .i64 o_.az,.int .i64 o_.aH,.slice a1 o_.Rows.length c1])]) (cp:=[]) hS kr kr hb109 kr kr (fun _ _=>rfl) (GX _ _ (⟨o_⟩:ie) state kind a1 c1 h1) ?_)
 intro v101 a fp fx hE hp hS
 replace hO:=hO.m2 hE
 replace h1:=h1.m1 hE
 obtain ⟨ax,hr⟩:∃ r,eZ (⟨o_⟩:ie) state kind=r:=⟨_,rfl⟩
 replace hm:=hm ax hr
 rw [hr] at hp
 clear hr
 subst hp
 refine ePe T hS [25,26,27,28] [(8,I ax.1),(11,I ax.2.1),(12,B ax.2.2)] fun a hS=>?_
 refine bg ?_
 refine rPe T hS [3,11,12] [(38,B ((!ax.2.2) || (ax.2.1 != result)))] (sp:=[34]) fun a hS=>?_
 refine aJ hS (b:=((!ax.2.2) || (ax.2.1 != result))) kr (fun hb=>?_) fun hb=>?_
 ·replace hm:=hm.1 hb
  refine rPe T hS [38] [(8,I 0),(9,I 40)] fun a hS=>?_
  refine aY ?_
  exact fin T hS hO (fun c=>c) rfl (r:=[.int .i64 0,.int .i64 40]) kr (fun X' hM hC=>⟨(0,40),hm,rfl⟩)
 replace hm:=hm.2 hb
 refine aM ?_
 refine rPe T hS [38] [(9,I 0)] fun a hS=>?_
 refine aY ?_
 exact fin T hS hO (fun c=>c) rfl (r:=[.int .i64 ax.1,.int .i64 0]) kr (fun X' hM hC=>⟨(ax.1,0),hm,rfl⟩)
theorem C98 (GX:S109) (v:∀ (o_:aj) (state:Int) (kind:Int) (result:Int),VC98 o_ state kind result (fun r=>r=iR o_ state kind result)):S98:=by
 intro w X o_ state kind result a1 c1   h1
 refine (W98 GX w X o_ state kind result a1 c1   _ (v o_ state kind result) h1).mono ?_
 rintro _ _ _ _ ⟨r,rfl,h⟩
 exact h
theorem W97 (Lu:S98) (w0) (X0) (p_:aa) (ao:List ab) (ay:List (Int × Int)) (aO:aj) (bF:Int) (a1) (c1) (r2) (m2) (a3) (c3) (b1) (i1) (b2) (i2) (b3) (i3) (b4) (i4) (Q:Int × Int × (List (Int × Int)) × Int->Prop) (hm:VC97 p_ ao ay aO bF Q) (h1:RS ar w0 X0 a1 ao c1) (h2:OM kI tI false w0 X0 m2 r2 ay) (h3:RS aC w0 X0 a3 aO.Rows c3) (fB:Cell w0 X0 b1 i1 42 [.slice a1 ao.length c1]) (gO:Cell w0 X0 b2 i2 113 [.map (some r2)]) (lR:Cell w0 X0 b3 i3 48 [.int .i64 aO.au,.int .i64 aO.az,.int .i64 aO.aH,.slice a3 aO.Rows.length c3]) (ue:Cell w0 X0 b4 i4 3 [.int .i64 bF]) (hA:dZ [i1,i2,i3,i4,m2]) :
  Ret Tryz.prog 97 #[.agg #[.int .i64 p_.Oper,.int .i64 p_.Result],.pointer (some ⟨b1,0,none⟩),.pointer (some ⟨b2,0,none⟩),.pointer (some ⟨b3,0,none⟩),.pointer (some ⟨b4,0,none⟩)] (pR [i1,i2,i3,i4,m2]) w0 X0 (fun w X' v=>∃ r,Q r/\v=.tuple #[.int .i64 r.1,.int .i64 r.2.1]/\Cell w X' b1 i1 42 [.slice a1 ao.length c1]/\Cell w X' b2 i2 113 [.map (some r2)]/\OM kI tI false w X' m2 r2 r.2.2.1/\Cell w X' b3 i3 48 [.int .i64 aO.au,.int .i64 aO.az,.int .i64 aO.aH,.slice a3 aO.Rows.length c3]/\Cell w X' b4 i4 3 [.int .i64 r.2.2.2]):=by
 unfold VC97 at hm
 replace hm:=hm (h1.sm kr)
 replace hm:=hm (h3.sm kr)
 refine fO Tryz.func97 rfl (dL (zAa2 i1 i2 i3 i4 m2)) (fun id=>(bif Nat.beq id 901 then b1 else (bif Nat.beq id 902 then b2 else (bif Nat.beq id 903 then b3 else (bif Nat.beq id 904 then b4 else 0))))) (args:=[V (.agg #[.int .i64 p_.Oper,.int .i64 p_.Result]),Pt 901 0,Pt 902 0,Pt 903 0,Pt 904 0]) (bxs:=[(901,(42,[Sl a1 ao c1])),(902,(113,[V (.map (some r2))])),(903,(48,(cO aO a3 c3))),(904,(3,[I bF]))]) kr rfl (bu.cons kr (fB.map (bQ 0 hA.1 rfl)) (bu.cons kr (gO.map (bQ 1 hA.1 rfl)) (bu.cons kr (lR.map (bQ 2 hA.1 rfl)) (bu.cons kr (ue.map (bQ 3 hA.1 rfl)) bu.nil)))) (fD (fun q hq=>(hA.2 q.1 (List.mem_map.2 ⟨q,hq,rfl⟩)).1)) ?_
 intro a hS hO hM
 have hP:Pin [(901,b1),(902,b2),(903,b3),(904,b4)] (fun id=>(bif Nat.beq id 901 then b1 else (bif Nat.beq id 902 then b2 else (bif Nat.beq id 903 then b3 else (bif Nat.beq id 904 then b4 else 0))))):=by intro q hq; simp at hq; rcases hq with rfl | rfl | rfl | rfl <;> rfl
 generalize (fun id=>(bif Nat.beq id 901 then b1 else (bif Nat.beq id 902 then b2 else (bif Nat.beq id 903 then b3 else (bif Nat.beq id 904 then b4 else 0)))))=Z at hS hP
 clear fB gO lR ue
 replace h1:=h1.m0 hM
 replace h2:=h2.map (f:=dL (zAa2 i1 i2 i3 i4 m2)) (bQ 4 hA.1 rfl) hM
 replace h3:=h3.m0 hM
 refine rM T hS ⟨[(1,Pt 901 0),(2,Pt 902 0),(3,Pt 903 0),(4,Pt 904 0),(5,Pt 6 0)],[(6,(56,(cK p_))),(901,(42,[Sl a1 ao c1])),(902,(113,[V (.map (some r2))])),(903,(48,(cO aO a3 c3))),(904,(3,[I bF]))]⟩ fun Z a uK uA hS hE hr=>?_
 replace hO:=hO.m2 hE
 replace h1:=h1.m1 hE
 replace h2:=h2.m2 hE
 replace h3:=h3.m1 hE
 replace hP:=hP.mv hr kr
 clear hE hr
 refine bg ?_
 refine aN ?_
 refine rPe T hS [] [(11,B ((decide (p_.Oper < 0)) || (decide (p_.Oper≥(lN ao)))))] (sp:=[15]) fun a hS=>?_
 refine aJ hS (b:=((decide (p_.Oper < 0)) || (decide (p_.Oper≥(lN ao))))) kr (fun hb=>?_) fun hb=>?_
 ·replace hm:=hm.1 hb
  refine rP T hS ⟨[(6,I 0),(7,I 2)],[(901,(42,[Sl a1 ao c1])),(902,(113,[V (.map (some r2))])),(903,(48,(cO aO a3 c3))),(904,(3,[I bF]))]⟩ fun a hS=>?_
  refine aY ?_
  exact gW T hS hO (fun c h=>b0 kr h) (fun c h=>b5 (l:=(zAa2 i1 i2 i3 i4 m2)) h) (bU (zAa2 i1 i2 i3 i4 m2)) rfl (r:=[.int .i64 0,.int .i64 2]) kr (fun X' hM hC=>⟨(0,2,ay,bF),hm,rfl,((hS.cell (id:=901) (t:=42) (cs:=[Sl a1 ao c1]) kr).out (f:=(bU (zAa2 i1 i2 i3 i4 m2))) hC kr kr (hP.at 0 rfl)),((hS.cell (id:=902) (t:=113) (cs:=[V (.map (some r2))]) kr).out (f:=(bU (zAa2 i1 i2 i3 i4 m2))) hC kr kr (hP.at 1 rfl)),(h2.out (f:=(bU (zAa2 i1 i2 i3 i4 m2))) hM hC kr kr),((hS.cell (id:=903) (t:=48) (cs:=(cO aO a3 c3)) kr).out (f:=(bU (zAa2 i1 i2 i3 i4 m2))) hC kr kr (hP.at 2 rfl)),((hS.cell (id:=904) (t:=3) (cs:=[I bF]) kr).out (f:=(bU (zAa2 i1 i2 i3 i4 m2))) hC kr kr (hP.at 3 rfl))⟩)
 replace hm:=hm.2 hb
 refine bq ?_
 refine oPe T hS 3 [11] [(23,V (.map (some r2))),(25,I p_.Oper)] fun a hS=>?_
 refine op1 (kf kI tI false (zv:=.int .i64 0) (z:=0) p_.Oper hS kr kr kr kr Tryz.underlying113 Tryz.underlying3 kr rfl h2 ?_)
 intro v101 a hv hS
 replace hv:tI.R _ _ [v101] _:=hv
 cases hv
 refine ePe T hS [23,25,26] [(22,B (decide (((aF ay p_.Oper).getD 0) > 0)))] fun a hS=>?_
 refine aJ hS (b:=decide (((aF ay p_.Oper).getD 0) > 0)) kr (fun hb=>?_) fun hb=>?_
 ·replace hm:=hm.1 hb
  refine rP T hS ⟨[(6,I 0),(7,I 21)],[(901,(42,[Sl a1 ao c1])),(902,(113,[V (.map (some r2))])),(903,(48,(cO aO a3 c3))),(904,(3,[I bF]))]⟩ fun a hS=>?_
  refine aY ?_
  exact gW T hS hO (fun c h=>b0 kr h) (fun c h=>b5 (l:=(zAa2 i1 i2 i3 i4 m2)) h) (bU (zAa2 i1 i2 i3 i4 m2)) rfl (r:=[.int .i64 0,.int .i64 21]) kr (fun X' hM hC=>⟨(0,21,ay,bF),hm,rfl,((hS.cell (id:=901) (t:=42) (cs:=[Sl a1 ao c1]) kr).out (f:=(bU (zAa2 i1 i2 i3 i4 m2))) hC kr kr (hP.at 0 rfl)),((hS.cell (id:=902) (t:=113) (cs:=[V (.map (some r2))]) kr).out (f:=(bU (zAa2 i1 i2 i3 i4 m2))) hC kr kr (hP.at 1 rfl)),(h2.out (f:=(bU (zAa2 i1 i2 i3 i4 m2))) hM hC kr kr),((hS.cell (id:=903) (t:=48) (cs:=(cO aO a3 c3)) kr).out (f:=(bU (zAa2 i1 i2 i3 i4 m2))) hC kr kr (hP.at 2 rfl)),((hS.cell (id:=904) (t:=3) (cs:=[I bF]) kr).out (f:=(bU (zAa2 i1 i2 i3 i4 m2))) hC kr kr (hP.at 3 rfl))⟩)
 replace hm:=hm.2 hb
 refine aM ?_
 refine bq ?_
 refine oPe T hS 3 [2,22] [(28,V (.map (some r2))),(30,I p_.Oper)] fun a hS=>?_
 refine op1 (kf kI tI false (zv:=.int .i64 0) (z:=0) p_.Oper hS kr kr kr kr Tryz.underlying113 Tryz.underlying3 kr rfl h2 ?_)
 intro v102 a hv hS
 replace hv:tI.R _ _ [v102] _:=hv
 cases hv
 refine oPe T hS 1 [31] [(32,I (wR (((aF ay p_.Oper).getD 0)+1)))] fun a hS=>?_
 refine op1 (tU kI tI false (v:=I (wR (((aF ay p_.Oper).getD 0)+1))) (u:=wR (((aF ay p_.Oper).getD 0)+1)) p_.Oper hS kr kr kr kr Tryz.underlying113 Tryz.underlying3 kr h2 rfl ?_)
 intro a Lf hE h104 hS
 clear h2
 replace hO:=hO.m2 hE
 replace h1:=h1.m1 hE
 replace h3:=h3.m1 hE
 refine gY ?_
 refine bq ?_
 refine oPe T hS 3 [1] [(33,Sl a1 ao c1),(35,I p_.Oper)] fun a hS=>?_
 obtain ⟨hq,hm⟩:=hm
 refine op1 (index (e:=102) (k:=.i64) T hS kr kr kr kr h1 kr kr hq.1 hq.2 ?_)
 intro ya a h106 hS
 refine op1 (eU T hS kr kr kr h106 kr kr ?_)
 intro v107 a hv hS
 subst hv
 refine eM T hS ⟨[(3,Pt 903 0),(4,Pt 904 0),(5,Pt 6 0),(8,Pt 9 0)],[(6,(56,(cK p_))),(9,(102,(cP (gi ao p_.Oper)))),(901,(42,[Sl a1 ao c1])),(902,(113,[V (.map (some r2))])),(903,(48,(cO aO a3 c3))),(904,(3,[I bF]))]⟩ fun Z a Gj HG hS hE hr=>?_
 replace hO:=hO.m2 hE
 replace h1:=h1.m1 hE
 replace h3:=h3.m1 hE
 replace h104:=h104.m2 hE
 replace hP:=hP.mv hr kr
 clear hE hr
 refine bq ?_
 refine oPe T hS 6 [3] [(39,V (.agg #[.int .i64 aO.au,.int .i64 aO.az,.int .i64 aO.aH,.slice a3 aO.Rows.length c3])),(40,I bF),(42,I ((gi ao p_.Oper).Kind)),(44,I p_.Result)] fun a hS=>?_
 refine op1 (call hS kr kr hb98 kr (fun _ _=>rfl) (Lu _ _ aO bF ((gi ao p_.Oper).Kind) p_.Result a3 c3 h3) ?_)
 intro v108 a qo sc hE hp hS
 replace hO:=hO.m2 hE
 replace h1:=h1.m1 hE
 replace h3:=h3.m1 hE
 replace h104:=h104.m2 hE
 obtain ⟨df,hr⟩:∃ r,iR aO bF ((gi ao p_.Oper).Kind) p_.Result=r:=⟨_,rfl⟩
 replace hm:=hm df hr
 rw [hr] at hp
 clear hr
 subst hp
 refine ePe T hS [39,40,42,44,45] [(9,I df.1),(10,I df.2)] fun a hS=>?_
 refine cb (fun a w=>∃ (Z:Nat->Nat) (X:Nat->Nat) (db:Int),VC97_J1 p_ ay bF Q df db/\St Tryz.f97.ntmps ⟨[(4,Pt 904 0),(9,I df.1),(10,I db)],[(901,(42,[Sl a1 ao c1])),(902,(113,[V (.map (some r2))])),(903,(48,(cO aO a3 c3))),(904,(3,[I bF]))]⟩ Z a w X/\gj (dL (zAa2 i1 i2 i3 i4 m2)) w0 X0 w X/\Pin [(901,b1),(902,b2),(903,b3),(904,b4)] Z/\RS ar w X a1 ao c1/\OM kI tI false w X 2002 r2 (dv ay p_.Oper (wR (((aF ay p_.Oper).getD 0)+1)))/\RS aC w X a3 aO.Rows c3) ?_ ?_
 ·refine rP T hS ⟨[(4,Pt 904 0),(9,I df.1),(10,I df.2),(61,B (((df.2 == 0) && (((gi ao p_.Oper).End) != (-1))) && (((gi ao p_.Oper).Result) != p_.Result)))],[(901,(42,[Sl a1 ao c1])),(902,(113,[V (.map (some r2))])),(903,(48,(cO aO a3 c3))),(904,(3,[I bF]))]⟩ (sp:=[50,55]) fun a hS=>?_
  refine aJ hS (b:=(((df.2 == 0) && (((gi ao p_.Oper).End) != (-1))) && (((gi ao p_.Oper).Result) != p_.Result))) kr (fun hb=>?_) fun hb=>?_
  ·replace hm:=hm.1 hb
   refine region (ePe T hS [61] [(10,I 40)] fun a hS=>?_)
   exact ⟨Z,_,40,hm,hS.sl _,hO,hP,h1,h104,h3⟩
  replace hm:=hm.2 hb
  refine aM ?_
  exact ⟨Z,_,df.2,hm,hS.sl _,hO,hP,h1,h104,h3⟩
 rintro a uL ⟨Z,E5,db,hm,hS,hO,hP,h113,h114,h115⟩
 unfold VC97_J1 at hm
 refine bg ?_
 refine rPe T hS [] [(63,B (db != 0))] fun a hS=>?_
 refine aJ hS (b:=(db != 0)) kr (fun hb=>?_) fun hb=>?_
 ·replace hm:=hm.1 hb
  refine rPe T hS [4,9,10,63] [(6,I 0),(7,I db)] fun a hS=>?_
  refine aY ?_
  exact gW T hS hO (fun c h=>b0 kr h) (fun c h=>b5 (l:=(zAa2 i1 i2 i3 i4 m2)) h) (bU (zAa2 i1 i2 i3 i4 m2)) rfl (r:=[.int .i64 0,.int .i64 db]) kr (fun X' hM hC=>⟨(0,db,dv ay p_.Oper (wR (((aF ay p_.Oper).getD 0)+1)),bF),hm,rfl,((hS.cell (id:=901) (t:=42) (cs:=[Sl a1 ao c1]) kr).out (f:=(bU (zAa2 i1 i2 i3 i4 m2))) hC kr kr (hP.at 0 rfl)),((hS.cell (id:=902) (t:=113) (cs:=[V (.map (some r2))]) kr).out (f:=(bU (zAa2 i1 i2 i3 i4 m2))) hC kr kr (hP.at 1 rfl)),(h114.out (f:=(bU (zAa2 i1 i2 i3 i4 m2))) hM hC kr kr),((hS.cell (id:=903) (t:=48) (cs:=(cO aO a3 c3)) kr).out (f:=(bU (zAa2 i1 i2 i3 i4 m2))) hC kr kr (hP.at 2 rfl)),((hS.cell (id:=904) (t:=3) (cs:=[I bF]) kr).out (f:=(bU (zAa2 i1 i2 i3 i4 m2))) hC kr kr (hP.at 3 rfl))⟩)
 replace hm:=hm.2 hb
 refine aM ?_
 refine rM T hS ⟨[(9,I df.1)],[(901,(42,[Sl a1 ao c1])),(902,(113,[V (.map (some r2))])),(903,(48,(cO aO a3 c3))),(904,(3,[I df.1]))]⟩ fun Z a wT A1 hS hE hr=>?_
 replace hO:=hO.m2 hE
 replace h113:=h113.m1 hE
 replace h114:=h114.m2 hE
 replace h115:=h115.m1 hE
 replace hP:=hP.mv hr kr
 clear hE hr
 refine rPe T hS [9] [(6,I df.1),(7,I 0)] fun a hS=>?_
 refine aY ?_
 exact gW T hS hO (fun c h=>b0 kr h) (fun c h=>b5 (l:=(zAa2 i1 i2 i3 i4 m2)) h) (bU (zAa2 i1 i2 i3 i4 m2)) rfl (r:=[.int .i64 df.1,.int .i64 0]) kr (fun X' hM hC=>⟨(df.1,0,dv ay p_.Oper (wR (((aF ay p_.Oper).getD 0)+1)),df.1),hm,rfl,((hS.cell (id:=901) (t:=42) (cs:=[Sl a1 ao c1]) kr).out (f:=(bU (zAa2 i1 i2 i3 i4 m2))) hC kr kr (hP.at 0 rfl)),((hS.cell (id:=902) (t:=113) (cs:=[V (.map (some r2))]) kr).out (f:=(bU (zAa2 i1 i2 i3 i4 m2))) hC kr kr (hP.at 1 rfl)),(h114.out (f:=(bU (zAa2 i1 i2 i3 i4 m2))) hM hC kr kr),((hS.cell (id:=903) (t:=48) (cs:=(cO aO a3 c3)) kr).out (f:=(bU (zAa2 i1 i2 i3 i4 m2))) hC kr kr (hP.at 2 rfl)),((hS.cell (id:=904) (t:=3) (cs:=[I df.1]) kr).out (f:=(bU (zAa2 i1 i2 i3 i4 m2))) hC kr kr (hP.at 3 rfl))⟩)
theorem C97 (Lu:S98) (v:∀ (p_:aa) (ao:List ab) (ay:List (Int × Int)) (aO:aj) (bF:Int),VC97 p_ ao ay aO bF (fun r=>r=dn p_ ao ay aO bF)):S97:=by
 intro w X p_ ao ay aO bF a1 c1 r2 m2 a3 c3  b1 i1 b2 i2 b3 i3 b4 i4 h1 h2 h3 fB gO lR ue hA
 refine (W97 Lu w X p_ ao ay aO bF a1 c1 r2 m2 a3 c3  b1 i1 b2 i2 b3 i3 b4 i4 _ (v p_ ao ay aO bF) h1 h2 h3 fB gO lR ue hA).mono ?_
 rintro _ _ _ _ ⟨r,rfl,h⟩
 exact h
theorem W62 (LG:S85) (LF:S86) (Lv:S97) (w0) (X0) (o_:aj) (l_:List ab) (state:Int) (ah:List aa) (a1) (c1) (a2) (c2) (a3) (c3) (Q:Int × Int × Int->Prop) (hm:VC62 o_ l_ state ah Q) (h1:RS aC w0 X0 a1 o_.Rows c1) (h2:RS ar w0 X0 a2 l_ c2) (h3:RS av w0 X0 a3 ah c3) :
  Ret Tryz.prog 62 #[.agg #[.int .i64 o_.au,.int .i64 o_.az,.int .i64 o_.aH,.slice a1 o_.Rows.length c1],.slice a2 l_.length c2,.int .i64 state,.slice a3 ah.length c3] aL w0 X0 (fun w X' v=>∃ r,Q r/\v=.tuple #[.int .i64 r.1,.int .i64 r.2.1,.int .i64 r.2.2]):=by
 unfold VC62 at hm
 replace hm:=hm (h1.sm kr)
 replace hm:=hm (h2.sm kr)
 replace hm:=hm (h3.sm kr)
 refine enter Tryz.func62 rfl (vals:=[.agg #[.int .i64 o_.au,.int .i64 o_.az,.int .i64 o_.aH,.slice a1 o_.Rows.length c1],.slice a2 l_.length c2,.int .i64 state,.slice a3 ah.length c3]) kr ?_
 intro Z a hS hO hM
 replace h1:=h1.m0 hM
 replace h2:=h2.m0 hM
 replace h3:=h3.m0 hM
 refine rM T hS ⟨[(1,Sl a2 l_ c2),(2,I state),(3,Sl a3 ah c3),(4,Pt 5 0)],[(5,(48,(cO o_ a1 c1)))]⟩ fun Z a ti xW hS hE hr=>?_
 replace hO:=hO.m2 hE
 replace h1:=h1.m1 hE
 replace h2:=h2.m1 hE
 replace h3:=h3.m1 hE
 clear hE hr
 refine bg ?_
 refine bq ?_
 refine oPe T hS 2 [] [(17,V (.agg #[.int .i64 o_.au,.int .i64 o_.az,.int .i64 o_.aH,.slice a1 o_.Rows.length c1])),(18,I state)] fun a hS=>?_
 obtain ⟨hq,hm⟩:=hm
 refine op1 (call hS kr kr hb85 kr (fun _ _=>rfl) (LG _ _ o_ state a1 c1 hq h1) ?_)
 intro v101 a fp fx hE hp hS
 replace hO:=hO.m2 hE
 replace h1:=h1.m1 hE
 replace h2:=h2.m1 hE
 replace h3:=h3.m1 hE
 obtain ⟨ax,hr⟩:∃ r,fF o_ state=r:=⟨_,rfl⟩
 replace hm:=hm ax hr
 rw [hr] at hp
 clear hr
 subst hp
 refine ePe T hS [17,18,19] [(11,I ax)] fun a hS=>?_
 refine rPe T hS [] [(21,B (ax != 0))] fun a hS=>?_
 refine aJ hS (b:=(ax != 0)) kr (fun hb=>?_) fun hb=>?_
 ·replace hm:=hm.1 hb
  refine rP T hS ⟨[(8,I 0),(9,I (-1)),(10,I ax)],[]⟩ fun a hS=>?_
  refine aY ?_
  exact fin T hS hO (fun c=>c) rfl (r:=[.int .i64 0,.int .i64 (-1),.int .i64 ax]) kr (fun X' hM hC=>⟨(0,(-1),ax),hm,rfl⟩)
 replace hm:=hm.2 hb
 refine aM ?_
 refine bq ?_
 refine oP T hS 3 ⟨[(2,I state),(3,Sl a3 ah c3),(23,V (.agg #[.int .i64 o_.au,.int .i64 o_.az,.int .i64 o_.aH,.slice a1 o_.Rows.length c1])),(24,Sl a2 l_ c2),(25,I state)],[]⟩ fun a hS=>?_
 refine op1 (call hS kr kr hb86 kr (fun _ _=>rfl) (LF _ _ o_ l_ state a1 c1 a2 c2 2113 701 702 703 704 h1 h2) ?_)
 intro v105 a ny m9 hE hp hS
 replace hO:=hO.m2 hE
 replace h1:=h1.m1 hE
 replace h2:=h2.m1 hE
 replace h3:=h3.m1 hE
 obtain ⟨cI,cH,fT,mh,mg,b117,b118,b119,b120,hp,h111,h116,sU,vB,h112,rl,Cu⟩:=hp
 obtain ⟨ba,hr⟩:∃ r,eD o_ l_ state=r:=⟨_,rfl⟩
 replace hm:=hm ba hr
 rw [hr] at h111 h116 sU rl Cu h112
 clear hr
 subst hp
 replace hm:=hm (h111.sm kr)
 replace hm:=hm (h116.sm kr)
 replace hS:=hS.oX (id:=701) (t:=42) (cs:=[Sl cI ba.1 cH]) kr kr sU rfl
 replace hS:=hS.oX (id:=702) (t:=113) (cs:=[V (.map (some fT))]) kr kr vB rfl
 replace hS:=hS.oX (id:=703) (t:=48) (cs:=(cO ba.2.2.1 mh mg)) kr kr rl rfl
 replace hS:=hS.oX (id:=704) (t:=3) (cs:=[I ba.2.2.2]) kr kr Cu rfl
 replace hS:=hS.CJ (t:=26) (x:=V (.func (.func 97) #[] #[.pointer (some ⟨b117,0,none⟩),.pointer (some ⟨b118,0,none⟩),.pointer (some ⟨b119,0,none⟩),.pointer (some ⟨b120,0,none⟩)])) (y:=.f (.func 97) [] [.p 701 0,.p 702 0,.p 703 0,.p 704 0]) kr rfl
 generalize (upd (upd (upd (upd Z 701 b117) 702 b118) 703 b119) 704 b120)=Z at hS
 clear sU vB rl Cu
 refine ePe T hS [23,24,25,26] [(12,.f (.func 97) [] [.p 701 0,.p 702 0,.p 703 0,.p 704 0])] fun a hS=>?_
 refine rPe T hS [2] [(8,I state)] fun a hS=>?_
 refine cb (fun a w=>∃ (Z:Nat->Nat) (X:Nat->Nat) (nv:Int),VC62_J1 ah Q nv/\St Tryz.f62.ntmps ⟨[(3,Sl a3 ah c3),(8,I nv)],[]⟩ Z a w X/\Old w0 X0 w X/\RS av w X a3 ah c3) ?_ ?_
 ·refine rPe T hS [] [(28,Sl a3 ah c3),(29,I (lN ah)),(30,I 0)] fun a hS=>?_
  refine aN ?_
  obtain ⟨I1,μ1,cx,hm⟩:=hm
  refine ct (σ:=Int × Int × (List (Int × Int)) × Int) (fun s a w=>∃ Z X,I1 s.1 s.2.1 s.2.2.1 s.2.2.2/\St Tryz.f62.ntmps ⟨[(3,Sl a3 ah c3),(8,I s.1),(12,.f (.func 97) [] [.p 701 0,.p 702 0,.p 703 0,.p 704 0]),(28,Sl a3 ah c3),(29,I (lN ah)),(30,I s.2.1)],[(701,(42,[Sl cI ba.1 cH])),(702,(113,[V (.map (some fT))])),(703,(48,(cO ba.2.2.1 mh mg))),(704,(3,[I s.2.2.2]))]⟩ Z a w X/\Old w0 X0 w X/\RS av w X a3 ah c3/\RS av w X a3 ah c3/\RS ar w X cI ba.1 cH/\OM kI tI false w X 2113 fT s.2.2.1/\RS aC w X mh ba.2.2.1.Rows mg) (fun s=>μ1 s.1 s.2.1 s.2.2.1 s.2.2.2) (⟨state,0,ba.2.1,ba.2.2.2⟩) ?_ ?_
  ·exact ⟨Z,_,cx,hS.sl _,hO,h3,h3,h111,h112,h116⟩
  rintro ⟨fX,mc,gM,gq⟩ a Gf ⟨Z,HE,hI,hS,hO,h127,h129,h131,h133,h134⟩
  replace hm:=hm fX mc gM gq hI
  clear hI cx
  refine rPe T hS [] [(31,B (decide (mc < (lN ah))))] fun a hS=>?_
  refine bg ?_
  refine aJ hS (b:=decide (mc < (lN ah))) kr (fun hb=>?_) fun hb=>?_
  ·replace hm:=hm.1 hb
   refine aM (bg ?_)
   refine aN ?_
   refine bq ?_
   refine oPe T hS 1 [8,31] [(32,I mc)] fun a hS=>?_
   obtain ⟨hq,hm⟩:=hm
   refine op1 (index (e:=56) (k:=.i64) T hS kr kr kr kr h129 kr kr hq.1 hq.2 ?_)
   intro E6 a h137 hS
   refine op1 (eU T hS kr kr kr h137 kr kr ?_)
   intro v138 a hv hS
   subst hv
   refine eM T hS ⟨[(3,Sl a3 ah c3),(12,.f (.func 97) [] [.p 701 0,.p 702 0,.p 703 0,.p 704 0]),(13,I mc),(14,Pt 15 0),(28,Sl a3 ah c3),(29,I (lN ah)),(30,I mc)],[(15,(56,(cK (gi ah mc)))),(701,(42,[Sl cI ba.1 cH])),(702,(113,[V (.map (some fT))])),(703,(48,(cO ba.2.2.1 mh mg))),(704,(3,[I gq]))]⟩ fun Z a Bo xY hS hE hr=>?_
   replace hO:=hO.m2 hE
   replace h127:=h127.m1 hE
   replace h129:=h129.m1 hE
   replace h131:=h131.m1 hE
   replace h133:=h133.m2 hE
   replace h134:=h134.m1 hE
   clear hE hr
   refine bq ?_
   refine oP T hS 2 ⟨[(3,Sl a3 ah c3),(12,.f (.func 97) [] [.p 701 0,.p 702 0,.p 703 0,.p 704 0]),(13,I mc),(28,Sl a3 ah c3),(29,I (lN ah)),(30,I mc),(36,.f (.func 97) [] [.p 701 0,.p 702 0,.p 703 0,.p 704 0]),(37,V (.agg #[.int .i64 ((gi ah mc).Oper),.int .i64 ((gi ah mc).Result)]))],[(701,(42,[Sl cI ba.1 cH])),(702,(113,[V (.map (some fT))])),(703,(48,(cO ba.2.2.1 mh mg))),(704,(3,[I gq]))]⟩ fun a hS=>?_
   refine op1 (kx (fi:=[]) (cp:=[.p 701 0,.p 702 0,.p 703 0,.p 704 0]) hS kr kr hb97 kr kr (Lv _ _ (gi ah mc) ba.1 gM ba.2.2.1 gq cI cH fT 2113 mh mg (Z 701) 701 (Z 702) 702 (Z 703) 703 (Z 704) 704 h131 h133 h134 (hS.cell (id:=701) (t:=42) (cs:=[Sl cI ba.1 cH]) kr) (hS.cell (id:=702) (t:=113) (cs:=[V (.map (some fT))]) kr) (hS.cell (id:=703) (t:=48) (cs:=(cO ba.2.2.1 mh mg)) kr) (hS.cell (id:=704) (t:=3) (cs:=[I gq]) kr) ⟨by decide,by decide⟩) ?_)
   intro v139 a zH x3 hE hp hS
   clear h133
   replace hO:=hO.m2 hE
   replace h127:=h127.m1 hE
   replace h129:=h129.m1 hE
   replace h131:=h131.m1 hE
   replace h134:=h134.m1 hE
   obtain ⟨hp,FE,FD,h143,vy,sS⟩:=hp
   obtain ⟨cc,hr⟩:∃ r,dn (gi ah mc) ba.1 gM ba.2.2.1 gq=r:=⟨_,rfl⟩
   replace hm:=hm cc hr
   rw [hr] at hp sS h143
   clear hr
   subst hp
   replace hS:=hS.cQ (id:=701) (t:=42) (cs:=[Sl cI ba.1 cH]) kr FE
   replace hS:=hS.cQ (id:=702) (t:=113) (cs:=[V (.map (some fT))]) kr FD
   replace hS:=hS.cQ (id:=703) (t:=48) (cs:=(cO ba.2.2.1 mh mg)) kr vy
   replace hS:=hS.cQ (id:=704) (t:=3) (cs:=[I cc.2.2.2]) kr sS
   clear FE FD vy sS
   refine ePe T hS [36,37,38] [(15,I cc.1),(16,I cc.2.1)] fun a hS=>?_
   refine bg ?_
   refine rPe T hS [] [(42,B (cc.2.1 != 0))] fun a hS=>?_
   refine aJ hS (b:=(cc.2.1 != 0)) kr (fun hb=>?_) fun hb=>?_
   ·replace hm:=hm.1 hb
    refine rP T hS ⟨[(8,I 0),(9,I mc),(10,I cc.2.1)],[]⟩ fun a hS=>?_
    refine aY ?_
    exact fin T hS hO (fun c=>c) rfl (r:=[.int .i64 0,.int .i64 mc,.int .i64 cc.2.1]) kr (fun X' hM hC=>⟨(0,mc,cc.2.1),hm,rfl⟩)
   replace hm:=hm.2 hb
   refine aM ?_
   refine region (ePe T hS [13,15,16,42] [(8,I cc.1)] fun a hS=>?_)
   refine region (ePe T hS [] [(30,I (wR (mc+1)))] fun a hS=>?_)
   exact ⟨⟨cc.1,wR (mc+1),cc.2.2.1,cc.2.2.2⟩,⟨Z,_,hm.1,hS.sl _,hO,h127,h129,h131,h143,h134⟩,hm.2⟩
  replace hm:=hm.2 hb
  refine cm (by rfl) ?_
  exact ⟨Z,_,fX,hm,hS.sl _,hO,h127⟩
 rintro a Bm ⟨Z,xX,nv,hm,hS,hO,h125⟩
 unfold VC62_J1 at hm
 refine rPe T hS [3] [(9,I (lN ah)),(10,I 0)] fun a hS=>?_
 refine aY ?_
 exact fin T hS hO (fun c=>c) rfl (r:=[.int .i64 nv,.int .i64 (lN ah),.int .i64 0]) kr (fun X' hM hC=>⟨(nv,(lN ah),0),hm,rfl⟩)
theorem C62 (LG:S85) (LF:S86) (Lv:S97) (v:∀ (o_:aj) (l_:List ab) (state:Int) (ah:List aa),yv o_ l_ state ah->VC62 o_ l_ state ah (fun r=>r=jq o_ l_ state ah)):S62:=by
 intro w X o_ l_ state ah a1 c1 a2 c2 a3 c3   hp h1 h2 h3
 refine (W62 LG LF Lv w X o_ l_ state ah a1 c1 a2 c2 a3 c3   _ (v o_ l_ state ah hp) h1 h2 h3).mono ?_
 rintro _ _ _ _ ⟨r,rfl,h⟩
 exact h
theorem W33 (LV:S62) (w0) (X0) (o_:aj) (l_:List ab) (ah:List aa) (a1) (c1) (a2) (c2) (a3) (c3) (Q:Int × Int × Int->Prop) (hm:VC33 o_ l_ ah Q) (h1:RS aC w0 X0 a1 o_.Rows c1) (h2:RS ar w0 X0 a2 l_ c2) (h3:RS av w0 X0 a3 ah c3) :
  Ret Tryz.prog 33 #[.agg #[.int .i64 o_.au,.int .i64 o_.az,.int .i64 o_.aH,.slice a1 o_.Rows.length c1],.slice a2 l_.length c2,.slice a3 ah.length c3] aL w0 X0 (fun w X' v=>∃ r,Q r/\v=.tuple #[.int .i64 r.1,.int .i64 r.2.1,.int .i64 r.2.2]):=by
 unfold VC33 at hm
 replace hm:=hm (h1.sm kr)
 replace hm:=hm (h2.sm kr)
 replace hm:=hm (h3.sm kr)
 refine enter Tryz.func33 rfl (vals:=[.agg #[.int .i64 o_.au,.int .i64 o_.az,.int .i64 o_.aH,.slice a1 o_.Rows.length c1],.slice a2 l_.length c2,.slice a3 ah.length c3]) kr ?_
 intro Z a hS hO hM
 replace h1:=h1.m0 hM
 replace h2:=h2.m0 hM
 replace h3:=h3.m0 hM
 refine rM T hS ⟨[(1,Sl a2 l_ c2),(2,Sl a3 ah c3),(3,Pt 4 0)],[(4,(48,(cO o_ a1 c1)))]⟩ fun Z a nz mi hS hE hr=>?_
 replace hO:=hO.m2 hE
 replace h1:=h1.m1 hE
 replace h2:=h2.m1 hE
 replace h3:=h3.m1 hE
 clear hE hr
 refine bq ?_
 refine oP T hS 5 ⟨[(9,V (.agg #[.int .i64 o_.au,.int .i64 o_.az,.int .i64 o_.aH,.slice a1 o_.Rows.length c1])),(10,Sl a2 l_ c2),(12,I o_.aH),(13,Sl a3 ah c3)],[]⟩ fun a hS=>?_
 obtain ⟨hq,hm⟩:=hm
 refine op1 (call hS kr kr hb62 kr (fun _ _=>rfl) (LV _ _ o_ l_ o_.aH ah a1 c1 a2 c2 a3 c3 hq h1 h2 h3) ?_)
 intro v101 a fp fx hE hp hS
 replace hO:=hO.m2 hE
 replace h1:=h1.m1 hE
 replace h2:=h2.m1 hE
 replace h3:=h3.m1 hE
 obtain ⟨ax,hr⟩:∃ r,jq o_ l_ o_.aH ah=r:=⟨_,rfl⟩
 replace hm:=hm ax hr
 rw [hr] at hp
 clear hr
 subst hp
 refine ePe T hS [9,10,12,13,14] [(6,I ax.1),(7,I ax.2.1),(8,I ax.2.2)] fun a hS=>?_
 refine aY ?_
 exact fin T hS hO (fun c=>c) rfl (r:=[.int .i64 ax.1,.int .i64 ax.2.1,.int .i64 ax.2.2]) kr (fun X' hM hC=>⟨(ax.1,ax.2.1,ax.2.2),hm,rfl⟩)
theorem C33 (LV:S62) (v:∀ (o_:aj) (l_:List ab) (ah:List aa),lq o_ l_ ah->VC33 o_ l_ ah (fun r=>r=cS o_ l_ ah)):S33:=by
 intro w X o_ l_ ah a1 c1 a2 c2 a3 c3   hp h1 h2 h3
 refine (W33 LV w X o_ l_ ah a1 c1 a2 c2 a3 c3   _ (v o_ l_ ah hp) h1 h2 h3).mono ?_
 rintro _ _ _ _ ⟨r,rfl,h⟩
 exact h
theorem W87 (w0) (X0) (ah:List aa) (a1) (c1) (cU) (dV) (Q:(List (Int × Int))->Prop) (hm:VC87 ah Q) (h1:RS av w0 X0 a1 ah c1) :
  Ret Tryz.prog 87 #[.slice a1 ah.length c1] aL w0 X0 (fun w X' v=>∃ r,Q r/\∃ Iw u5,v=.func (.func 99) #[] #[.pointer (some ⟨u5,0,none⟩)]/\Cell w X' u5 dV 113 [.map (some Iw)]/\OM kI tI false w X' cU Iw r):=by
 unfold VC87 at hm
 replace hm:=hm (h1.sm kr)
 refine enter Tryz.func87 rfl (vals:=[.slice a1 ah.length c1]) kr ?_
 intro Z a hS hO hM
 replace h1:=h1.m0 hM
 refine rPe T hS [] [] fun a hS=>?_
 refine bq ?_
 refine op1 (pF kI tI false 1007 hS kr kr ?_)
 intro eB a fp fx hE h104 hS
 replace hO:=hO.m2 hE
 replace h1:=h1.m1 hE
 refine eM T hS ⟨[(0,Sl a1 ah c1),(3,Pt 4 0)],[(4,(113,[V (.map (some eB))]))]⟩ fun Z a Gi x5 hS hE hr=>?_
 replace hO:=hO.m2 hE
 replace h1:=h1.m1 hE
 replace h104:=h104.m2 hE
 clear hE hr
 refine cb (fun a w=>∃ (Z:Nat->Nat) (X:Nat->Nat) (fY:List (Int × Int)),VC87_J1 Q fY/\St Tryz.f87.ntmps ⟨[(3,Pt 4 0)],[(4,(113,[V (.map (some eB))]))]⟩ Z a w X/\Old w0 X0 w X/\OM kI tI false w X 1007 eB fY) ?_ ?_
 ·refine rPe T hS [0] [(7,Sl a1 ah c1),(8,I (lN ah)),(9,I 0)] fun a hS=>?_
  refine aN ?_
  obtain ⟨I1,μ1,cx,hm⟩:=hm
  refine ct (σ:=Int × (List (Int × Int))) (fun s a w=>∃ Z X,I1 s.1 s.2/\St Tryz.f87.ntmps ⟨[(3,Pt 4 0),(7,Sl a1 ah c1),(8,I (lN ah)),(9,I s.1)],[(4,(113,[V (.map (some eB))]))]⟩ Z a w X/\Old w0 X0 w X/\RS av w X a1 ah c1/\OM kI tI false w X 1007 eB s.2) (fun s=>μ1 s.1 s.2) (⟨0,([]:List (Int × Int))⟩) ?_ ?_
  ·exact ⟨Z,_,cx,hS.sl _,hO,h1,h104⟩
  rintro ⟨dD,cr⟩ a Gj ⟨Z,Dp,hI,hS,hO,h107,h110⟩
  replace hm:=hm dD cr hI
  clear hI cx
  refine rPe T hS [] [(10,B (decide (dD < (lN ah))))] fun a hS=>?_
  refine bg ?_
  refine aJ hS (b:=decide (dD < (lN ah))) kr (fun hb=>?_) fun hb=>?_
  ·replace hm:=hm.1 hb
   refine aM (bg ?_)
   refine aN ?_
   refine bq ?_
   obtain ⟨hq,hm⟩:=hm
   refine op1 (index (e:=56) (k:=.i64) T hS kr kr kr kr h107 kr kr hq.1 hq.2 ?_)
   intro Dv a h112 hS
   refine op1 (eU T hS kr kr kr h112 kr kr ?_)
   intro v113 a hv hS
   subst hv
   refine eM T hS ⟨[(3,Pt 4 0),(5,Pt 6 0),(7,Sl a1 ah c1),(8,I (lN ah)),(9,I dD)],[(4,(113,[V (.map (some eB))])),(6,(56,(cK (gi ah dD))))]⟩ fun Z a Bs E5 hS hE hr=>?_
   replace hO:=hO.m2 hE
   replace h107:=h107.m1 hE
   replace h110:=h110.m2 hE
   clear hE hr
   refine region ?_
   refine oP T hS 3 ⟨[(3,Pt 4 0),(7,Sl a1 ah c1),(8,I (lN ah)),(9,I dD),(13,V (.map (some eB))),(15,I ((gi ah dD).Oper))],[(4,(113,[V (.map (some eB))]))]⟩ fun a hS=>?_
   refine op1 (kf kI tI false (zv:=.int .i64 0) (z:=0) ((gi ah dD).Oper) hS kr kr kr kr Tryz.underlying113 Tryz.underlying3 kr rfl h110 ?_)
   intro v114 a hv hS
   replace hv:tI.R _ _ [v114] _:=hv
   cases hv
   refine oPe T hS 1 [16] [(17,I (wR (((aF cr ((gi ah dD).Oper)).getD 0)+1)))] fun a hS=>?_
   refine op1 (tU kI tI false (v:=I (wR (((aF cr ((gi ah dD).Oper)).getD 0)+1))) (u:=wR (((aF cr ((gi ah dD).Oper)).getD 0)+1)) ((gi ah dD).Oper) hS kr kr kr kr Tryz.underlying113 Tryz.underlying3 kr h110 rfl ?_)
   intro a pV hE h116 hS
   clear h110
   replace hO:=hO.m2 hE
   replace h107:=h107.m1 hE
   refine gY ?_
   refine region (ePe T hS [] [(9,I (wR (dD+1)))] fun a hS=>?_)
   exact ⟨⟨wR (dD+1),dv cr ((gi ah dD).Oper) (wR (((aF cr ((gi ah dD).Oper)).getD 0)+1))⟩,⟨Z,_,hm.1,hS.sl _,hO,h107,h116⟩,hm.2⟩
  replace hm:=hm.2 hb
  refine cm (by rfl) ?_
  exact ⟨Z,_,cr,hm,hS.sl _,hO,h110⟩
 rintro a uK ⟨Z,HG,fY,hm,hS,hO,h106⟩
 unfold VC87_J1 at hm
 refine rPe T hS [3] [(2,.f (.func 99) [] [.p 4 0])] fun a hS=>?_
 refine aY ?_
 exact fin T hS hO (zAa1 dV cU) rfl (r:=[.func (.func 99) #[] #[.pointer (some ⟨Z 4,0,none⟩)]]) kr (fun X' hM hC=>⟨fY,hm,eB,(Z 4),rfl,((hS.cell (id:=4) (t:=113) (cs:=[V (.map (some eB))]) kr).out (f:=(zAa1 dV cU)) hC kr kr rfl),(h106.out (f:=(zAa1 dV cU)) hM hC kr kr)⟩)
theorem C87 (v:∀ (ah:List aa),VC87 ah (fun r=>r=fo ah)):S87:=by
 intro w X ah a1 c1 cU dV  h1
 refine (W87 w X ah a1 c1 cU dV  _ (v ah) h1).mono ?_
 rintro _ _ _ _ ⟨r,rfl,h⟩
 exact h
theorem W99 (w0) (X0) (i_:Int) (ao:List (Int × Int)) (r1) (m1) (b1) (i1) (Q:Bool->Prop) (hm:VC99 i_ ao Q) (h1:OM kI tI false w0 X0 m1 r1 ao) (fB:Cell w0 X0 b1 i1 113 [.map (some r1)]) (hA:dZ [i1,m1]) :
  Ret Tryz.prog 99 #[.int .i64 i_,.pointer (some ⟨b1,0,none⟩)] (pR [i1,m1]) w0 X0 (fun w X' v=>∃ r,Q r/\v=.bool r/\Cell w X' b1 i1 113 [.map (some r1)]/\OM kI tI false w X' m1 r1 ao):=by
 unfold VC99 at hm
 refine fO Tryz.func99 rfl (dL [(i1,901),(m1,2001)]) (fun id=>(bif Nat.beq id 901 then b1 else 0)) (args:=[I i_,Pt 901 0]) (bxs:=[(901,(113,[V (.map (some r1))]))]) kr rfl (bu.cons kr (fB.map (bQ 0 hA.1 rfl)) bu.nil) (fD (fun q hq=>(hA.2 q.1 (List.mem_map.2 ⟨q,hq,rfl⟩)).1)) ?_
 intro a hS hO hM
 have hP:Pin [(901,b1)] (fun id=>(bif Nat.beq id 901 then b1 else 0)):=by intro q hq; simp at hq; rcases hq with rfl <;> rfl
 generalize (fun id=>(bif Nat.beq id 901 then b1 else 0))=Z at hS hP
 clear fB
 replace h1:=h1.map (f:=dL [(i1,901),(m1,2001)]) (bQ 1 hA.1 rfl) hM
 refine rPe T hS [] [] fun a hS=>?_
 refine bq ?_
 refine oPe T hS 2 [0,1] [(4,V (.map (some r1))),(5,I i_)] fun a hS=>?_
 refine op1 (kf kI tI false (zv:=.int .i64 0) (z:=0) i_ hS kr kr kr kr Tryz.underlying113 Tryz.underlying3 kr rfl h1 ?_)
 intro v101 a hv hS
 replace hv:tI.R _ _ [v101] _:=hv
 cases hv
 refine ePe T hS [4,5,6] [(3,B (((aF ao i_).getD 0) == 0))] fun a hS=>?_
 refine aY ?_
 exact gW T hS hO (fun c h=>b0 kr h) (fun c h=>b5 (l:=[(i1,901),(m1,2001)]) h) (bU [(i1,901),(m1,2001)]) rfl (r:=[.bool (((aF ao i_).getD 0) == 0)]) kr (fun X' hM hC=>⟨(((aF ao i_).getD 0) == 0),hm,rfl,((hS.cell (id:=901) (t:=113) (cs:=[V (.map (some r1))]) kr).out (f:=(bU [(i1,901),(m1,2001)])) hC kr kr (hP.at 0 rfl)),(h1.out (f:=(bU [(i1,901),(m1,2001)])) hM hC kr kr)⟩)
theorem C99 (v:∀ (i_:Int) (ao:List (Int × Int)),VC99 i_ ao (fun r=>r=fk i_ ao)):S99:=by
 intro w X i_ ao r1 m1  b1 i1 h1 fB hA
 refine (W99 w X i_ ao r1 m1  b1 i1 _ (v i_ ao) h1 fB hA).mono ?_
 rintro _ _ _ _ ⟨r,rfl,h⟩
 exact h
theorem W64 (LD:S87) (Lt:S99) (w0) (X0) (l_:List ab) (ah:List aa) (pending:Bool) (a1) (c1) (a2) (c2) (Q:(List Int)->Prop) (hm:VC64 l_ ah pending Q) (h1:RS ar w0 X0 a1 l_ c1) (h2:RS av w0 X0 a2 ah c2) :
  Ret Tryz.prog 64 #[.slice a1 l_.length c1,.slice a2 ah.length c2,.bool pending] aL w0 X0 (fun w X' v=>∃ r,Q r/\∃ cz cy,v=.slice cz r.length cy/\RS tI w X' cz r cy):=by
 unfold VC64 at hm
 replace hm:=hm (h1.sm kr)
 replace hm:=hm (h2.sm kr)
 refine enter Tryz.func64 rfl (vals:=[.slice a1 l_.length c1,.slice a2 ah.length c2,.bool pending]) kr ?_
 intro Z a hS hO hM
 replace h1:=h1.m0 hM
 replace h2:=h2.m0 hM
 refine rPe T hS [] [] fun a hS=>?_
 refine bq ?_
 refine oPe T hS 1 [1] [(11,Sl a2 ah c2)] fun a hS=>?_
 refine op1 (call hS kr kr hb87 kr (fun _ _=>rfl) (LD _ _ ah a2 c2 2106 701 h2) ?_)
 intro v101 a fp fx hE hp hS
 replace hO:=hO.m2 hE
 replace h1:=h1.m1 hE
 replace h2:=h2.m1 hE
 obtain ⟨gC,b107,hp,FQ,h105⟩:=hp
 obtain ⟨ax,hr⟩:∃ r,fo ah=r:=⟨_,rfl⟩
 replace hm:=hm ax hr
 rw [hr] at h105
 clear hr
 subst hp
 replace hS:=hS.oX (id:=701) (t:=113) (cs:=[V (.map (some gC))]) kr kr FQ rfl
 replace hS:=hS.CJ (t:=12) (x:=V (.func (.func 99) #[] #[.pointer (some ⟨b107,0,none⟩)])) (y:=.f (.func 99) [] [.p 701 0]) kr rfl
 generalize (upd Z 701 b107)=Z at hS
 clear FQ
 refine ePe T hS [11,12] [(7,.f (.func 99) [] [.p 701 0])] fun a hS=>?_
 refine rPe T hS [] [(8,V (.slice none 0 0))] fun a hS=>?_
 refine cb (fun a w=>∃ (Z:Nat->Nat) (X:Nat->Nat) (cr:List Int) (fg:Option Addr) (ff:Nat),VC64_J1 Q cr/\St Tryz.f64.ntmps ⟨[(8,Sl fg cr ff)],[]⟩ Z a w X/\Old w0 X0 w X/\OS tI 3 w X 1007 fg cr ff) ?_ ?_
 ·refine rPe T hS [0] [(13,Sl a1 l_ c1),(14,I (lN l_)),(15,I 0)] fun a hS=>?_
  refine aN ?_
  obtain ⟨I1,μ1,cx,hm⟩:=hm
  refine ct (σ:=(List Int) × Int) (fun s a w=>∃ Z X dY dX,I1 s.1 s.2/\St Tryz.f64.ntmps ⟨[(2,B pending),(7,.f (.func 99) [] [.p 701 0]),(8,Sl dY s.1 dX),(13,Sl a1 l_ c1),(14,I (lN l_)),(15,I s.2)],[(701,(113,[V (.map (some gC))]))]⟩ Z a w X/\Old w0 X0 w X/\OS tI 3 w X 1007 dY s.1 dX/\RS ar w X a1 l_ c1/\OM kI tI false w X 2106 gC ax) (fun s=>μ1 s.1 s.2) (⟨[],0⟩) ?_ ?_
  ·exact ⟨Z,_,none,0,cx,hS.sl _,hO,(OS.nil _ _ _ _ _),h1,h105⟩
  rintro ⟨bw,eI⟩ a Bl ⟨Z,HC,dY,dX,hI,hS,hO,h118,h119,h121⟩
  replace hm:=hm bw eI hI
  clear hI cx
  refine rPe T hS [] [(16,B (decide (eI < (lN l_))))] fun a hS=>?_
  refine bg ?_
  refine aJ hS (b:=decide (eI < (lN l_))) kr (fun hb=>?_) fun hb=>?_
  ·replace hm:=hm.1 hb
   refine aM ?_
   refine cb (fun a w=>∃ (Z:Nat->Nat) (X:Nat->Nat) (aV:List Int) (po:Option Addr) (pf:Nat),VC64_J2 I1 μ1 bw eI aV/\St Tryz.f64.ntmps ⟨[(2,B pending),(7,.f (.func 99) [] [.p 701 0]),(8,Sl po aV pf),(13,Sl a1 l_ c1),(14,I (lN l_)),(15,I eI)],[(701,(113,[V (.map (some gC))]))]⟩ Z a w X/\Old w0 X0 w X/\OS tI 3 w X 1007 po aV pf/\RS ar w X a1 l_ c1/\OM kI tI false w X 2106 gC ax) ?_ ?_
   ·refine aN ?_
    refine bq ?_
    refine oPe T hS 1 [16] [(17,I eI)] fun a hS=>?_
    obtain ⟨hq,hm⟩:=hm
    refine op1 (index (e:=102) (k:=.i64) T hS kr kr kr kr h119 kr kr hq.1 hq.2 ?_)
    intro Kt a h129 hS
    refine op1 (eU T hS kr kr kr h129 kr kr ?_)
    intro v130 a hv hS
    subst hv
    refine eM T hS ⟨[(2,B pending),(7,.f (.func 99) [] [.p 701 0]),(8,Sl dY bw dX),(9,I eI),(10,Pt 11 0),(13,Sl a1 l_ c1),(14,I (lN l_)),(15,I eI)],[(11,(102,(cP (gi l_ eI)))),(701,(113,[V (.map (some gC))]))]⟩ fun Z a Gd Dj hS hE hr=>?_
    replace hO:=hO.m2 hE
    replace h118:=h118.m2 hE
    replace h119:=h119.m1 hE
    replace h121:=h121.m2 hE
    clear hE hr
    refine cb (fun a w=>∃ (Z:Nat->Nat) (X:Nat->Nat) (fW:List Int) (jZ:Bool) (g8:Option Addr) (gZ:Nat),VC64_J3 I1 μ1 bw eI fW jZ/\St Tryz.f64.ntmps ⟨[(2,B pending),(7,.f (.func 99) [] [.p 701 0]),(8,Sl g8 fW gZ),(9,I eI),(13,Sl a1 l_ c1),(14,I (lN l_)),(15,I eI),(29,B jZ)],[(701,(113,[V (.map (some gC))]))]⟩ Z a w X/\Old w0 X0 w X/\OS tI 3 w X 1007 g8 fW gZ/\RS ar w X a1 l_ c1/\OM kI tI false w X 2106 gC ax) ?_ ?_
    ·refine region ?_
     refine oP T hS 6 ⟨[(2,B pending),(7,.f (.func 99) [] [.p 701 0]),(8,Sl dY bw dX),(9,I eI),(13,Sl a1 l_ c1),(14,I (lN l_)),(15,I eI),(25,B ((((gi l_ eI).End) == (-1)) == pending))],[(701,(113,[V (.map (some gC))]))]⟩ fun a hS=>?_
     rcases bft ((((gi l_ eI).End) == (-1)) == pending) with hb | hb
     ·replace hS:=hS.lit (t:=25) kr hb
      replace hm:=hm.1 hb
      refine oPe T hS 2 [] [(26,.f (.func 99) [] [.p 701 0]),(27,I eI)] fun a hS=>?_
      refine op1 (kx (fi:=[]) (cp:=[.p 701 0]) hS kr kr hb99 kr kr (Lt _ _ eI ax gC 2106 (Z 701) 701 h121 (hS.cell (id:=701) (t:=113) (cs:=[V (.map (some gC))]) kr) ⟨by decide,by decide⟩) ?_)
      intro v147 a Bo xY hE hp hS
      clear h121
      replace hO:=hO.m2 hE
      replace h118:=h118.m2 hE
      replace h119:=h119.m1 hE
      obtain ⟨hp,FA,h152⟩:=hp
      obtain ⟨zZ,hr⟩:∃ r,fk eI ax=r:=⟨_,rfl⟩
      replace hm:=hm zZ hr
      rw [hr] at hp
      clear hr
      subst hp
      replace hS:=hS.cQ (id:=701) (t:=113) (cs:=[V (.map (some gC))]) kr FA
      clear FA
      refine ePe T hS [25,26,27,28] [(29,B zZ)] fun a hS=>?_
      exact ⟨Z,_,bw,zZ,dY,dX,hm,hS.sl _,hO,h118,h119,h152⟩
     replace hS:=hS.lit (t:=25) kr hb
     replace hm:=hm.2 hb
     refine ePe T hS [25] [(29,B false)] fun a hS=>?_
     exact ⟨Z,_,bw,false,dY,dX,hm,hS.sl _,hO,h118,h119,h121⟩
    rintro a ti ⟨Z,Ki,fW,jZ,g8,gZ,hm,hS,hO,h134,h135,h137⟩
    unfold VC64_J3 at hm
    refine aJ hS (b:=jZ) kr (fun hb=>?_) fun hb=>?_
    ·replace hm:=hm.1 hb
     refine region ?_
     refine oPe T hS 2 [9,29] [(30,Sl g8 fW gZ),(31,I eI)] fun a hS=>?_
     refine op1 (lit (E:=3) (col:=0) (T:=tI) (vals:=[.int .i64 eI]) (ys:=[eI]) T hS kr kr kr kr (by exact ⟨rfl,trivial⟩) rfl kr kr kr kr ?_)
     intro b138 a tj wA hE h141 hN hS
     clear hN
     replace hO:=hO.m2 hE
     replace h134:=h134.m2 hE
     replace h135:=h135.m1 hE
     replace h137:=h137.m2 hE
     replace h141:=h141.rs0
     obtain ⟨hq,hm⟩:=hm
     obtain ⟨news,hN⟩:=h141.src
     refine op1 (append (E:=3) (T:=tI) (col:=1007) (xs:=fW) T hS kr kr kr kr h134 hN kr kr kr kr hq ?_)
     intro wy wh a qn sa hE h144 hS
     clear hq hN
     clear h134
     replace hO:=hO.m2 hE
     replace h135:=h135.m1 hE
     replace h137:=h137.m2 hE
     replace h141:=h141.m1 hE
     refine ePe T hS [31,32,33] [(8,Sl wy (fW++[eI]) wh)] fun a hS=>?_
     exact ⟨Z,_,fW++[eI],wy,wh,hm,hS.sl _,hO,h144,h135,h137⟩
    replace hm:=hm.2 hb
    refine aM ?_
    exact ⟨Z,_,fW,g8,gZ,hm,hS.sl _,hO,h134,h135,h137⟩
   rintro a DR ⟨Z,E0,aV,po,pf,hm,hS,hO,h125,h126,h127⟩
   unfold VC64_J2 at hm
   refine region (ePe T hS [] [(15,I (wR (eI+1)))] fun a hS=>?_)
   exact ⟨⟨aV,wR (eI+1)⟩,⟨Z,_,po,pf,hm.1,hS.sl _,hO,h125,h126,h127⟩,hm.2⟩
  replace hm:=hm.2 hb
  refine cm (by rfl) ?_
  exact ⟨Z,_,bw,dY,dX,hm,hS.sl _,hO,h118⟩
 rintro a DQ ⟨Z,Di,cr,fg,ff,hm,hS,hO,h112⟩
 unfold VC64_J1 at hm
 refine rPe T hS [8] [(6,Sl fg cr ff)] fun a hS=>?_
 refine aY ?_
 obtain ⟨rN,hE,hF⟩:=h112.freeze (by decide)
 replace hS:=hS.ev hE (cA kr)
 replace hO:=hO.m2 hE
 have h114:=hF; clear hE hF
 exact fin T hS hO (fun c=>c) rfl (r:=[.slice fg cr.length ff]) kr (fun X' hM hC=>⟨cr,hm,fg,ff,rfl,h114.m0 hM⟩)
theorem C64 (LD:S87) (Lt:S99) (v:∀ (l_:List ab) (ah:List aa) (pending:Bool),vg l_ ah pending->VC64 l_ ah pending (fun r=>r=eC l_ ah pending)):S64:=by
 intro w X l_ ah pending a1 c1 a2 c2   hp h1 h2
 refine (W64 LD Lt w X l_ ah pending a1 c1 a2 c2   _ (v l_ ah pending hp) h1 h2).mono ?_
 rintro _ _ _ _ ⟨r,rfl,h⟩
 exact h
theorem W35 (LU:S64) (w0) (X0) (l_:List ab) (ah:List aa) (a1) (c1) (a2) (c2) (Q:(List Int)->Prop) (hm:VC35 l_ ah Q) (h1:RS ar w0 X0 a1 l_ c1) (h2:RS av w0 X0 a2 ah c2) :
  Ret Tryz.prog 35 #[.slice a1 l_.length c1,.slice a2 ah.length c2] aL w0 X0 (fun w X' v=>∃ r,Q r/\∃ cz cy,v=.slice cz r.length cy/\RS tI w X' cz r cy):=by
 unfold VC35 at hm
 replace hm:=hm (h1.sm kr)
 replace hm:=hm (h2.sm kr)
 refine enter Tryz.func35 rfl (vals:=[.slice a1 l_.length c1,.slice a2 ah.length c2]) kr ?_
 intro Z a hS hO hM
 replace h1:=h1.m0 hM
 replace h2:=h2.m0 hM
 refine rPe T hS [] [] fun a hS=>?_
 refine bq ?_
 refine oPe T hS 2 [0,1] [(5,Sl a1 l_ c1),(6,Sl a2 ah c2)] fun a hS=>?_
 obtain ⟨hq,hm⟩:=hm
 refine op1 (call hS kr kr hb64 kr (fun _ _=>rfl) (LU _ _ l_ ah false a1 c1 a2 c2 hq h1 h2) ?_)
 intro v101 a fp fx hE hp hS
 replace hO:=hO.m2 hE
 replace h1:=h1.m1 hE
 replace h2:=h2.m1 hE
 obtain ⟨dS,dR,hp,h107⟩:=hp
 obtain ⟨ax,hr⟩:∃ r,eC l_ ah false=r:=⟨_,rfl⟩
 replace hm:=hm ax hr
 rw [hr] at hp h107
 clear hr
 subst hp
 replace hm:=hm (h107.sm kr)
 refine ePe T hS [5,6,7] [(4,Sl dS ax dR)] fun a hS=>?_
 refine aY ?_
 exact fin T hS hO (fun c=>c) rfl (r:=[.slice dS ax.length dR]) kr (fun X' hM hC=>⟨ax,hm,dS,dR,rfl,h107.m0 hM⟩)
theorem C35 (LU:S64) (v:∀ (l_:List ab) (ah:List aa),qK l_ ah->VC35 l_ ah (fun r=>r=b9 l_ ah)):S35:=by
 intro w X l_ ah a1 c1 a2 c2   hp h1 h2
 refine (W35 LU w X l_ ah a1 c1 a2 c2   _ (v l_ ah hp) h1 h2).mono ?_
 rintro _ _ _ _ ⟨r,rfl,h⟩
 exact h
theorem W63 (w0) (X0) (a_:ab) (b_:ab) (Q:Bool->Prop) (hm:VC63 a_ b_ Q) :
  Ret Tryz.prog 63 #[.agg #[.int .i64 a_.ak,.int .i64 a_.Kind,.int .i64 a_.aI,.int .i64 a_.End,.int .i64 a_.Result],.agg #[.int .i64 b_.ak,.int .i64 b_.Kind,.int .i64 b_.aI,.int .i64 b_.End,.int .i64 b_.Result]] aL w0 X0 (fun w X' v=>∃ r,Q r/\v=.bool r):=by
 unfold VC63 at hm
 refine enter Tryz.func63 rfl (vals:=[.agg #[.int .i64 a_.ak,.int .i64 a_.Kind,.int .i64 a_.aI,.int .i64 a_.End,.int .i64 a_.Result],.agg #[.int .i64 b_.ak,.int .i64 b_.Kind,.int .i64 b_.aI,.int .i64 b_.End,.int .i64 b_.Result]]) kr ?_
 intro Z a hS hO hM
 refine rM T hS ⟨[(2,Pt 3 0),(3,Pt 4 0)],[(3,(102,(cP a_))),(4,(102,(cP b_)))]⟩ fun Z a oO pw hS hE hr=>?_
 replace hO:=hO.m2 hE
 clear hE hr
 refine rP T hS ⟨[(4,B ((decide (a_.End≥0)) && (decide (a_.End < b_.aI))))],[]⟩ (sp:=[8]) fun a hS=>?_
 refine aY ?_
 exact fin T hS hO (fun c=>c) rfl (r:=[.bool ((decide (a_.End≥0)) && (decide (a_.End < b_.aI)))]) kr (fun X' hM hC=>⟨((decide (a_.End≥0)) && (decide (a_.End < b_.aI))),hm,rfl⟩)
theorem C63 (v:∀ (a_:ab) (b_:ab),VC63 a_ b_ (fun r=>r=bl a_ b_)):S63:=by
 intro w X a_ b_    
 refine (W63 w X a_ b_    _ (v a_ b_)).mono ?_
 rintro _ _ _ _ ⟨r,rfl,h⟩
 exact h
end Go.Proofs.YteahldlmkheleaaGreat
