/- Walks. -/
import Derived.Test.YteahldlmkheleaaGreatLWalksS
set_option linter.all false
namespace Go.Proofs.YteahldlmkheleaaGreat
open Go Go.Sv
abbrev zAa0 (oT oU jp dS cG:Nat):Nat->Nat:=fun c=>(bif Nat.beq c 6 then oT else (bif Nat.beq c 4 then oU else (bif Nat.beq c 8 then jp else (bif Nat.beq c 5 then dS else (bif Nat.beq c 1009 then cG else c)))))
abbrev zAa1 (dS cG:Nat):Nat->Nat:=fun c=>(bif Nat.beq c 4 then dS else (bif Nat.beq c 1007 then cG else c))
abbrev zAa2 (i1 i2 i3 i4 m2:Nat):List (Nat × Nat):=[(i1,901),(i2,902),(i3,903),(i4,904),(m2,2002)]
set_option maxHeartbeats 1000000
theorem W21 (w0) (X0) (o_:ae) (a1) (c1) (Q:Bool->Prop) (hm:VC21 o_ Q) (h1:RS ay w0 X0 a1 o_.Rows c1) :
  Ret Tryz.prog 21 #[.agg #[.int .i64 o_.ar,.int .i64 o_.aw,.int .i64 o_.aC,.slice a1 o_.Rows.length c1]] aJ w0 X0 (fun w X' v=>∃ r,Q r/\v=.bool r):=by
 unfold VC21 at hm
 replace hm:=hm (h1.sm kr)
 refine enter Tryz.func21 rfl (vals:=[.agg #[.int .i64 o_.ar,.int .i64 o_.aw,.int .i64 o_.aC,.slice a1 o_.Rows.length c1]]) kr ?_
 intro Z a hS hO hM
 replace h1:=h1.m0 hM
 refine rM T hS ⟨[(1,Pt 2 0)],[(2,(48,(cO o_ a1 c1)))]⟩ fun Z a oE o3 hS hE hr=>?_
 replace hO:=hO.m2 hE
 replace h1:=h1.m1 hE
 clear hE hr
 refine rP T hS ⟨[(2,B (decide ((lN o_.Rows)≤300)))],[]⟩ fun a hS=>?_
 refine aY ?_
 exact fin T hS hO (fun c=>c) rfl (r:=[.bool (decide ((lN o_.Rows)≤300))]) kr (fun X' hM hC=>⟨(decide ((lN o_.Rows)≤300)),hm,rfl⟩)
theorem C21 (v:∀ (o_:ae),VC21 o_ (fun r=>r=gR o_)):S21:=by
 intro w X o_ a1 c1   h1
 refine (W21 w X o_ a1 c1   _ (v o_) h1).mono ?_
 rintro _ _ _ _ ⟨r,rfl,h⟩
 exact h
theorem W81 (w0) (X0) (n_:Int) (top:Int) (Q:Bool->Prop) (hm:VC81 n_ top Q) :
  Ret Tryz.prog 81 #[.int .i64 n_,.int .i64 top] aJ w0 X0 (fun w X' v=>∃ r,Q r/\v=.bool r):=by
 unfold VC81 at hm
 refine enter Tryz.func81 rfl (vals:=[.int .i64 n_,.int .i64 top]) kr ?_
 intro Z a hS hO hM
 refine rPe T hS [] [] fun a hS=>?_
 refine rPe T hS [0,1] [(4,B ((decide (n_≥0)) && (decide (n_ < top))))] (sp:=[7]) fun a hS=>?_
 refine aY ?_
 exact fin T hS hO (fun c=>c) rfl (r:=[.bool ((decide (n_≥0)) && (decide (n_ < top)))]) kr (fun X' hM hC=>⟨((decide (n_≥0)) && (decide (n_ < top))),hm,rfl⟩)
theorem C81 (v:∀ (n_:Int) (top:Int),VC81 n_ top (fun r=>r=b0 n_ top)):S81:=by
 intro w X n_ top    
 refine (W81 w X n_ top    _ (v n_ top)).mono ?_
 rintro _ _ _ _ ⟨r,rfl,h⟩
 exact h
theorem W107 (w0) (X0) (vals:List Int) (a1) (c1) (Q:Int->Prop) (hm:VC107 vals Q) (h1:RS tI w0 X0 a1 vals c1) :
  Ret Tryz.prog 107 #[.slice a1 vals.length c1] aJ w0 X0 (fun w X' v=>∃ r,Q r/\v=.int .i64 r):=by
 unfold VC107 at hm
 replace hm:=hm (h1.sm kr)
 refine enter Tryz.func107 rfl (vals:=[.slice a1 vals.length c1]) kr ?_
 intro Z a hS hO hM
 replace h1:=h1.m0 hM
 refine rPe T hS [] [] fun a hS=>?_
 refine rPe T hS [] [(3,I 0)] fun a hS=>?_
 refine bT (fun a w=>∃ Z X,VC107_J1 Q/\St Tryz.f107.ntmps ⟨[(3,I 0)],[]⟩ Z a w X/\Old w0 X0 w X) ?_ ?_
 ·refine rPe T hS [0] [(6,Sl a1 vals c1),(7,I (lN vals)),(8,I 0)] fun a hS=>?_
  refine aL ?_
  obtain ⟨I1,μ1,co,hm⟩:=hm
  refine cl (σ:=Int) (fun s a w=>∃ Z X,I1 s/\St Tryz.f107.ntmps ⟨[(3,I 0),(6,Sl a1 vals c1),(7,I (lN vals)),(8,I s)],[]⟩ Z a w X/\Old w0 X0 w X/\RS tI w X a1 vals c1) (fun s=>μ1 s) (0) ?_ ?_
  ·exact ⟨Z,_,co,hS.sl _,hO,h1⟩
  rintro bu a rz ⟨Z,ms,hI,hS,hO,h101⟩
  replace hm:=hm bu hI
  clear hI co
  refine rPe T hS [] [(9,B (decide (bu < (lN vals))))] fun a hS=>?_
  refine bc ?_
  refine aG hS (b:=decide (bu < (lN vals))) kr (fun hb=>?_) fun hb=>?_
  ·replace hm:=hm.1 hb
   refine aH (bc ?_)
   refine aL ?_
   refine bj ?_
   obtain ⟨hq,hm⟩:=hm
   refine op1 (index (e:=3) (k:=.i64) T hS kr kr kr kr h101 kr kr hq.1 hq.2 ?_)
   intro ui a h104 hS
   refine op1 (dU T hS kr kr kr h104 rfl kr ?_)
   intro v105 a hv hS
   cases hv
   refine ePe T hS [9,10,11] [(5,I (gi vals bu))] fun a hS=>?_
   refine rPe T hS [] [(14,B ((gi vals bu) != 0))] fun a hS=>?_
   refine aG hS (b:=((gi vals bu) != 0)) kr (fun hb=>?_) fun hb=>?_
   ·replace hm:=hm.1 hb
    refine rPe T hS [3,5,6,7,8,14] [(2,I (gi vals bu))] fun a hS=>?_
    refine aY ?_
    exact fin T hS hO (fun c=>c) rfl (r:=[.int .i64 (gi vals bu)]) kr (fun X' hM hC=>⟨(gi vals bu),hm,rfl⟩)
   replace hm:=hm.2 hb
   refine aH ?_
   refine region (ePe T hS [5,14] [(8,I (wR (bu+1)))] fun a hS=>?_)
   exact ⟨wR (bu+1),⟨Z,_,hm.1,hS.sl _,hO,h101⟩,hm.2⟩
  replace hm:=hm.2 hb
  refine cb (by rfl) ?_
  exact ⟨Z,_,hm,hS.sl _,hO⟩
 rintro a ry ⟨Z,pI,hm,hS,hO⟩
 unfold VC107_J1 at hm
 refine rPe T hS [3] [(2,I 0)] fun a hS=>?_
 refine aY ?_
 exact fin T hS hO (fun c=>c) rfl (r:=[.int .i64 0]) kr (fun X' hM hC=>⟨0,hm,rfl⟩)
theorem C107 (v:∀ (vals:List Int),VC107 vals (fun r=>r=gm vals)):S107:=by
 intro w X vals a1 c1   h1
 refine (W107 w X vals a1 c1   _ (v vals) h1).mono ?_
 rintro _ _ _ _ ⟨r,rfl,h⟩
 exact h
theorem W113 (w0) (X0) (x_:Int) (Q:Bool->Prop) (hm:VC113 x_ Q) :
  Ret Tryz.prog 113 #[.int .i64 x_] aJ w0 X0 (fun w X' v=>∃ r,Q r/\v=.bool r):=by
 unfold VC113 at hm
 refine enter Tryz.func113 rfl (vals:=[.int .i64 x_]) kr ?_
 intro Z a hS hO hM
 refine rPe T hS [] [] fun a hS=>?_
 refine rPe T hS [0] [(2,B (x_ != x_))] fun a hS=>?_
 refine aY ?_
 exact fin T hS hO (fun c=>c) rfl (r:=[.bool (x_ != x_)]) kr (fun X' hM hC=>⟨(x_ != x_),hm,rfl⟩)
theorem C113 (v:∀ (x_:Int),VC113 x_ (fun r=>r=eO x_)):S113:=by
 intro w X x_    
 refine (W113 w X x_    _ (v x_)).mono ?_
 rintro _ _ _ _ ⟨r,rfl,h⟩
 exact h
theorem W108 (Eb:S113) (w0) (X0) (x_:Int) (y_:Int) (Q:Int->Prop) (hm:VC108 x_ y_ Q) :
  Ret Tryz.prog 108 #[.int .i64 x_,.int .i64 y_] aJ w0 X0 (fun w X' v=>∃ r,Q r/\v=.int .i64 r):=by
 unfold VC108 at hm
 refine enter Tryz.func108 rfl (vals:=[.int .i64 x_,.int .i64 y_]) kr ?_
 intro Z a hS hO hM
 refine rPe T hS [] [] fun a hS=>?_
 refine bj ?_
 refine oPe T hS 1 [] [(7,I x_)] fun a hS=>?_
 refine op1 (call hS kr kr hb113 kr (fun _ _=>rfl) (Eb _ _ x_) ?_)
 intro v101 a eZ fa hE hp hS
 replace hO:=hO.m2 hE
 obtain ⟨ap,hr⟩:∃ r,eO x_=r:=⟨_,rfl⟩
 replace hm:=hm ap hr
 rw [hr] at hp
 clear hr
 subst hp
 refine ePe T hS [7,8] [(5,B ap)] fun a hS=>?_
 refine bj ?_
 refine oPe T hS 1 [] [(9,I y_)] fun a hS=>?_
 refine op1 (call hS kr kr hb113 kr (fun _ _=>rfl) (Eb _ _ y_) ?_)
 intro v105 a mg mc hE hp hS
 replace hO:=hO.m2 hE
 obtain ⟨aV,hr⟩:∃ r,eO y_=r:=⟨_,rfl⟩
 replace hm:=hm aV hr
 rw [hr] at hp
 clear hr
 subst hp
 refine ePe T hS [9,10] [(6,B aV)] fun a hS=>?_
 refine bc ?_
 refine rPe T hS [5] [(11,B ap)] fun a hS=>?_
 refine aG hS (b:=ap) kr (fun hb=>?_) fun hb=>?_
 ·replace hm:=hm.1 hb
  refine bc ?_
  refine rPe T hS [0,1,6,11] [(12,B aV)] fun a hS=>?_
  refine aG hS (b:=aV) kr (fun hb=>?_) fun hb=>?_
  ·replace hm:=hm.1 hb
   refine rPe T hS [12] [(4,I 0)] fun a hS=>?_
   refine aY ?_
   exact fin T hS hO (fun c=>c) rfl (r:=[.int .i64 0]) kr (fun X' hM hC=>⟨0,hm,rfl⟩)
  replace hm:=hm.2 hb
  refine aH ?_
  refine rPe T hS [12] [(4,I (-1))] fun a hS=>?_
  refine aY ?_
  exact fin T hS hO (fun c=>c) rfl (r:=[.int .i64 (-1)]) kr (fun X' hM hC=>⟨(-1),hm,rfl⟩)
 replace hm:=hm.2 hb
 refine aH (bc ?_)
 refine rPe T hS [6,11] [(13,B aV)] fun a hS=>?_
 refine aG hS (b:=aV) kr (fun hb=>?_) fun hb=>?_
 ·replace hm:=hm.1 hb
  refine rPe T hS [0,1,13] [(4,I 1)] fun a hS=>?_
  refine aY ?_
  exact fin T hS hO (fun c=>c) rfl (r:=[.int .i64 1]) kr (fun X' hM hC=>⟨1,hm,rfl⟩)
 replace hm:=hm.2 hb
 refine aH (bc ?_)
 refine rPe T hS [13] [(16,B (decide (x_ < y_)))] fun a hS=>?_
 refine aG hS (b:=decide (x_ < y_)) kr (fun hb=>?_) fun hb=>?_
 ·replace hm:=hm.1 hb
  refine rPe T hS [0,1,16] [(4,I (-1))] fun a hS=>?_
  refine aY ?_
  exact fin T hS hO (fun c=>c) rfl (r:=[.int .i64 (-1)]) kr (fun X' hM hC=>⟨(-1),hm,rfl⟩)
 replace hm:=hm.2 hb
 refine aH (bc ?_)
 refine rPe T hS [0,1,16] [(19,B (decide (x_ > y_)))] fun a hS=>?_
 refine aG hS (b:=decide (x_ > y_)) kr (fun hb=>?_) fun hb=>?_
 ·replace hm:=hm.1 hb
  refine rPe T hS [19] [(4,I 1)] fun a hS=>?_
  refine aY ?_
  exact fin T hS hO (fun c=>c) rfl (r:=[.int .i64 1]) kr (fun X' hM hC=>⟨1,hm,rfl⟩)
 replace hm:=hm.2 hb
 refine aH ?_
 refine rPe T hS [19] [(4,I 0)] fun a hS=>?_
 refine aY ?_
 exact fin T hS hO (fun c=>c) rfl (r:=[.int .i64 0]) kr (fun X' hM hC=>⟨0,hm,rfl⟩)
theorem C108 (Eb:S113) (v:∀ (x_:Int) (y_:Int),VC108 x_ y_ (fun r=>r=dn x_ y_)):S108:=by
 intro w X x_ y_    
 refine (W108 Eb w X x_ y_    _ (v x_ y_)).mono ?_
 rintro _ _ _ _ ⟨r,rfl,h⟩
 exact h
theorem W96 (GK:S107) (Ec:S108) (w0) (X0) (a_:ba) (b_:ba) (Q:Int->Prop) (hm:VC96 a_ b_ Q) :
  Ret Tryz.prog 96 #[.agg #[.int .i64 a_.State,.int .i64 a_.Kind,.int .i64 a_.Next,.int .i64 a_.Result],.agg #[.int .i64 b_.State,.int .i64 b_.Kind,.int .i64 b_.Next,.int .i64 b_.Result]] aJ w0 X0 (fun w X' v=>∃ r,Q r/\v=.int .i64 r):=by
 unfold VC96 at hm
 refine enter Tryz.func96 rfl (vals:=[.agg #[.int .i64 a_.State,.int .i64 a_.Kind,.int .i64 a_.Next,.int .i64 a_.Result],.agg #[.int .i64 b_.State,.int .i64 b_.Kind,.int .i64 b_.Next,.int .i64 b_.Result]]) kr ?_
 intro Z a hS hO hM
 refine rM T hS ⟨[(2,Pt 3 0),(3,Pt 4 0)],[(3,(107,(cR a_))),(4,(107,(cR b_)))]⟩ fun Z a uq AL hS hE hr=>?_
 replace hO:=hO.m2 hE
 clear hE hr
 refine dv [3,4] mixed hS ?_
 intro oE o3 hS hE hD hH
 replace hO:=hO.m2 hE
 refine tke T [0,2,5,7,1,3,6,8] [3,4] hS hH #[true,true,true,true,false,true,true,true,true,false,false,false,false] 5 [2,3] [(6,I a_.State),(8,I b_.State),(11,I a_.Kind),(13,I b_.Kind)] fun a hS=>?_
 refine only 4 kr (by rfl) (call hS kr kr hb108 kr (fun _ _=>rfl) (Ec _ _ a_.State b_.State) ?_)
 intro v103 a zr o1 hE hp hS
 replace hO:=hO.m2 hE
 replace hD:=hD.ev hE rfl
 obtain ⟨f9,hr⟩:∃ r,dn a_.State b_.State=r:=⟨_,rfl⟩
 replace hm:=hm f9 hr
 rw [hr] at hp
 clear hr
 subst hp
 replace hS:=hS.sle [] [(9,I f9)]
 refine cW (bH.of hS (bks:=[3,4]) kr hD) ?_
 intro hH
 refine only 9 kr (by rfl) (call hS kr kr hb108 kr (fun _ _=>rfl) (Ec _ _ a_.Kind b_.Kind) ?_)
 intro v107 a Gb xG hE hp hS
 replace hO:=hO.m2 hE
 replace hD:=hD.ev hE rfl
 obtain ⟨fp,hr⟩:∃ r,dn a_.Kind b_.Kind=r:=⟨_,rfl⟩
 replace hm:=hm fp hr
 rw [hr] at hp
 clear hr
 subst hp
 replace hS:=hS.sle [] [(14,I fp)]
 refine cW (bH.of hS (bks:=[3,4]) kr hD) ?_
 intro hH
 refine only 10 kr (by rfl) (lit (E:=3) (col:=0) (T:=tI) (vals:=[.int .i64 f9,.int .i64 fp]) (ys:=[f9,fp]) T hS kr kr kr kr (by exact ⟨rfl,rfl,trivial⟩) rfl kr kr kr kr ?_)
 intro b111 a Bc uf hE h114 hN hS
 clear hN
 replace hO:=hO.m2 hE
 replace hD:=hD.ev hE rfl
 replace h114:=h114.rs0
 refine cW (bH.of hS (bks:=[3,4]) kr hD) ?_
 intro hH
 refine only 11 kr (by rfl) (call hS kr kr hb107 kr (fun _ _=>rfl) (GK _ _ [f9,fp] (some ⟨b111,0,none⟩) 2 h114) ?_)
 intro v115 a wt AM hE hp hS
 replace hO:=hO.m2 hE
 replace hD:=hD.ev hE rfl
 replace h114:=h114.m1 hE
 obtain ⟨ip,hr⟩:∃ r,gm [f9,fp]=r:=⟨_,rfl⟩
 replace hm:=hm ip hr
 rw [hr] at hp
 clear hr
 subst hp
 replace hS:=hS.sle [] [(16,I ip)]
 refine cW (bH.of hS (bks:=[3,4]) kr hD) ?_
 intro hH
 refine tke T [12] [3,4] hS hH (tts 13) 0 [6,8,11,13,9,14,15,16] [(4,I ip)] fun a hS=>?_
 refine aS kr ?_
 replace hS:=hS.sl ⟨[(4,I ip)],[]⟩
 refine aY ?_
 exact fin T hS hO (fun c=>c) rfl (r:=[.int .i64 ip]) kr (fun X' hM hC=>⟨ip,hm,rfl⟩)
theorem C96 (GK:S107) (Ec:S108) (v:∀ (a_:ba) (b_:ba),VC96 a_ b_ (fun r=>r=gk a_ b_)):S96:=by
 intro w X a_ b_    
 refine (W96 GK Ec w X a_ b_    _ (v a_ b_)).mono ?_
 rintro _ _ _ _ ⟨r,rfl,h⟩
 exact h
theorem W82 (AR:S81) (Ll:S96) (w0) (X0) (o_:ae) (i_:Int) (a1) (c1) (Q:Int->Prop) (hm:VC82 o_ i_ Q) (h1:RS ay w0 X0 a1 o_.Rows c1) :
  Ret Tryz.prog 82 #[.agg #[.int .i64 o_.ar,.int .i64 o_.aw,.int .i64 o_.aC,.slice a1 o_.Rows.length c1],.int .i64 i_] aJ w0 X0 (fun w X' v=>∃ r,Q r/\v=.int .i64 r):=by
 unfold VC82 at hm
 replace hm:=hm (h1.sm kr)
 refine enter Tryz.func82 rfl (vals:=[.agg #[.int .i64 o_.ar,.int .i64 o_.aw,.int .i64 o_.aC,.slice a1 o_.Rows.length c1],.int .i64 i_]) kr ?_
 intro Z a hS hO hM
 replace h1:=h1.m0 hM
 refine rM T hS ⟨[(1,I i_),(2,Pt 3 0)],[(3,(48,(cO o_ a1 c1)))]⟩ fun Z a A9 Df hS hE hr=>?_
 replace hO:=hO.m2 hE
 replace h1:=h1.m1 hE
 clear hE hr
 refine bj ?_
 refine oPe T hS 3 [] [(7,Sl a1 o_.Rows c1),(8,I i_)] fun a hS=>?_
 obtain ⟨hq,hm⟩:=hm
 refine op1 (index (e:=107) (k:=.i64) T hS kr kr kr kr h1 kr kr hq.1 hq.2 ?_)
 intro Kl a h102 hS
 refine op1 (eC T hS kr kr kr h102 kr kr ?_)
 intro v103 a hv hS
 subst hv
 refine eM T hS ⟨[(1,I i_),(2,Pt 3 0),(5,Pt 6 0)],[(3,(48,(cO o_ a1 c1))),(6,(107,(cR (gi o_.Rows i_))))]⟩ fun Z a p3 rH hS hE hr=>?_
 replace hO:=hO.m2 hE
 replace h1:=h1.m1 hE
 clear hE hr
 refine bc ?_
 refine aL ?_
 refine bT (fun a w=>∃ (Z:Nat->Nat) (X:Nat->Nat) (hJ:Bool),VC82_J1 o_ i_ Q hJ/\St Tryz.f82.ntmps ⟨[(1,I i_),(2,Pt 3 0),(5,Pt 6 0),(11,B hJ)],[(3,(48,(cO o_ a1 c1))),(6,(107,(cR (gi o_.Rows i_))))]⟩ Z a w X/\Old w0 X0 w X/\RS ay w X a1 o_.Rows c1) ?_ ?_
 ·refine region ?_
  refine oPe T hS 4 [] [(13,I ((gi o_.Rows i_).State)),(15,I o_.ar)] fun a hS=>?_
  refine op1 (call hS kr kr hb81 kr (fun _ _=>rfl) (AR _ _ ((gi o_.Rows i_).State) o_.ar) ?_)
  intro v126 a sS AJ hE hp hS
  replace hO:=hO.m2 hE
  replace h1:=h1.m1 hE
  obtain ⟨wO,hr⟩:∃ r,b0 ((gi o_.Rows i_).State) o_.ar=r:=⟨_,rfl⟩
  replace hm:=hm wO hr
  rw [hr] at hp
  clear hr
  subst hp
  refine oPe T hS 2 [13,15,16] [(18,B (!wO))] fun a hS=>?_
  rcases bft (!wO) with hb | hb
  ·replace hS:=hS.lit (t:=18) kr hb
   replace hm:=hm.1 hb
   refine ePe T hS [18] [(11,B true)] fun a hS=>?_
   exact ⟨Z,_,true,hm,hS.sl _,hO,h1⟩
  replace hS:=hS.lit (t:=18) kr hb
  replace hm:=hm.2 hb
  refine oPe T hS 4 [] [(20,I ((gi o_.Rows i_).Next)),(22,I o_.ar)] fun a hS=>?_
  refine op1 (call hS kr kr hb81 kr (fun _ _=>rfl) (AR _ _ ((gi o_.Rows i_).Next) o_.ar) ?_)
  intro v130 a p4 pH hE hp hS
  replace hO:=hO.m2 hE
  replace h1:=h1.m1 hE
  obtain ⟨jB,hr⟩:∃ r,b0 ((gi o_.Rows i_).Next) o_.ar=r:=⟨_,rfl⟩
  replace hm:=hm jB hr
  rw [hr] at hp
  clear hr
  subst hp
  refine ePe T hS [18,20,22,23] [(11,B (!jB))] fun a hS=>?_
  exact ⟨Z,_,(!jB),hm,hS.sl _,hO,h1⟩
 rintro a Ba ⟨Z,xE,hJ,hm,hS,hO,h105⟩
 unfold VC82_J1 at hm
 refine aG hS (b:=hJ) kr (fun hb=>?_) fun hb=>?_
 ·replace hm:=hm.1 hb
  refine rP T hS ⟨[(4,I 30)],[]⟩ fun a hS=>?_
  refine aY ?_
  exact fin T hS hO (fun c=>c) rfl (r:=[.int .i64 30]) kr (fun X' hM hC=>⟨30,hm,rfl⟩)
 replace hm:=hm.2 hb
 refine bj ?_
 refine oPe T hS 4 [11] [(28,I ((gi o_.Rows i_).Kind)),(30,I o_.aw)] fun a hS=>?_
 refine op1 (call hS kr kr hb81 kr (fun _ _=>rfl) (AR _ _ ((gi o_.Rows i_).Kind) o_.aw) ?_)
 intro v106 a rz pI hE hp hS
 replace hO:=hO.m2 hE
 replace h105:=h105.m1 hE
 obtain ⟨iU,hr⟩:∃ r,b0 ((gi o_.Rows i_).Kind) o_.aw=r:=⟨_,rfl⟩
 replace hm:=hm iU hr
 rw [hr] at hp
 clear hr
 subst hp
 refine ePe T hS [28,30,31] [(26,B (!iU))] fun a hS=>?_
 refine aG hS (b:=(!iU)) kr (fun hb=>?_) fun hb=>?_
 ·replace hm:=hm.1 hb
  refine rP T hS ⟨[(4,I 31)],[]⟩ fun a hS=>?_
  refine aY ?_
  exact fin T hS hO (fun c=>c) rfl (r:=[.int .i64 31]) kr (fun X' hM hC=>⟨31,hm,rfl⟩)
 replace hm:=hm.2 hb
 refine bj ?_
 refine oPe T hS 2 [26] [(35,I ((gi o_.Rows i_).Result))] fun a hS=>?_
 refine op1 (call hS kr kr hb81 kr (fun _ _=>rfl) (AR _ _ ((gi o_.Rows i_).Result) 1000001) ?_)
 intro v110 a DK rJ hE hp hS
 replace hO:=hO.m2 hE
 replace h105:=h105.m1 hE
 obtain ⟨fS,hr⟩:∃ r,b0 ((gi o_.Rows i_).Result) 1000001=r:=⟨_,rfl⟩
 replace hm:=hm fS hr
 rw [hr] at hp
 clear hr
 subst hp
 refine ePe T hS [35,36] [(33,B (!fS))] fun a hS=>?_
 refine aG hS (b:=(!fS)) kr (fun hb=>?_) fun hb=>?_
 ·replace hm:=hm.1 hb
  refine rP T hS ⟨[(4,I 7)],[]⟩ fun a hS=>?_
  refine aY ?_
  exact fin T hS hO (fun c=>c) rfl (r:=[.int .i64 7]) kr (fun X' hM hC=>⟨7,hm,rfl⟩)
 replace hm:=hm.2 hb
 refine bT (fun a w=>∃ (Z:Nat->Nat) (X:Nat->Nat) (im:Bool),VC82_J2 Q im/\St Tryz.f82.ntmps ⟨[(38,B im)],[]⟩ Z a w X/\Old w0 X0 w X) ?_ ?_
 ·refine gI [3,6] mixed hS ?_
  intro pt ue hS hE hD hH
  replace hO:=hO.m2 hE
  replace h105:=h105.m1 hE
  refine tke T [0,1,2] [3,6] hS hH #[true,true,true,false,false,false,false,false,false,false,false,false,false,false] 11 [] [(41,B (decide (i_ > 0)))] fun a hS=>?_
  rcases bft (decide (i_ > 0)) with hb | hb
  ·replace hS:=hS.lit (t:=41) kr hb
   replace hm:=hm.1 hb
   refine tke T [3,5,9,4,6] [3,6] hS hH #[true,true,true,true,true,true,true,false,false,true,false,false,false,false] 6 [1,2,5] [(43,Sl a1 o_.Rows c1),(45,I (wR (i_ - 1))),(48,V (.agg #[.int .i64 ((gi o_.Rows i_).State),.int .i64 ((gi o_.Rows i_).Kind),.int .i64 ((gi o_.Rows i_).Next),.int .i64 ((gi o_.Rows i_).Result)]))] fun a hS=>?_
   obtain ⟨hq,hm⟩:=hm
   refine c7 (e:=107) (k:=.i64) T 7 hS kr kr kr (by rfl) kr hH kr kr h105 kr kr hq.1 hq.2 ?_
   intro NL a h118 hS
   have Ji:=h118.here
   refine jr T 8 hS kr kr kr (by rfl) kr hH kr h118 Ji kr kr ?_
   intro v119 a hv hS
   subst hv
   refine only 10 kr (by rfl) (call hS kr kr hb96 kr (fun _ _=>rfl) (Ll _ _ (gi o_.Rows (wR (i_ - 1))) (gi o_.Rows i_)) ?_)
   intro v120 a up AK hE hp hS
   replace hO:=hO.m2 hE
   replace hD:=hD.ev hE rfl
   replace h105:=h105.m1 hE
   replace h118:=h118.m1 hE
   obtain ⟨jS,hr⟩:∃ r,gk (gi o_.Rows (wR (i_ - 1))) (gi o_.Rows i_)=r:=⟨_,rfl⟩
   replace hm:=hm jS hr
   rw [hr] at hp
   clear hr
   subst hp
   replace hS:=hS.sle [] [(49,I jS)]
   refine cW (bH.of hS (bks:=[3,6]) kr hD) ?_
   intro hH
   refine tke T [11,12,13] [3,6] hS hH (tts 14) 0 [41,43,45,48,46,47,49] [(38,B (decide (jS≥0)))] fun a hS=>?_
   refine aS kr ?_
   replace hS:=hS.sl ⟨[(38,B (decide (jS≥0)))],[]⟩
   exact ⟨Z,_,decide (jS≥0),hm,hS.sl _,hO⟩
  replace hS:=hS.lit (t:=41) kr hb
  replace hm:=hm.2 hb
  refine tke T [3,5,9,4,6,7,8,10,11,12,13] [3,6] hS hH (tts 14) 0 [1,2,5,41] [(38,B false)] fun a hS=>?_
  refine aS kr ?_
  replace hS:=hS.sl ⟨[(38,B false)],[]⟩
  exact ⟨Z,_,false,hm,hS.sl _,hO⟩
 rintro a zp ⟨Z,wb,im,hm,hS,hO⟩
 unfold VC82_J2 at hm
 refine aG hS (b:=im) kr (fun hb=>?_) fun hb=>?_
 ·replace hm:=hm.1 hb
  refine rPe T hS [38] [(4,I 32)] fun a hS=>?_
  refine aY ?_
  exact fin T hS hO (fun c=>c) rfl (r:=[.int .i64 32]) kr (fun X' hM hC=>⟨32,hm,rfl⟩)
 replace hm:=hm.2 hb
 refine aH ?_
 refine rPe T hS [38] [(4,I 0)] fun a hS=>?_
 refine aY ?_
 exact fin T hS hO (fun c=>c) rfl (r:=[.int .i64 0]) kr (fun X' hM hC=>⟨0,hm,rfl⟩)
theorem C82 (AR:S81) (Ll:S96) (v:∀ (o_:ae) (i_:Int),preRow o_ i_->VC82 o_ i_ (fun r=>r=hX o_ i_)):S82:=by
 intro w X o_ i_ a1 c1   hp h1
 refine (W82 AR Ll w X o_ i_ a1 c1   _ (v o_ i_ hp) h1).mono ?_
 rintro _ _ _ _ ⟨r,rfl,h⟩
 exact h
theorem W53 (AR:S81) (Lw:S82) (w0) (X0) (o_:ae) (a1) (c1) (Q:Int × Int->Prop) (hm:VC53 o_ Q) (h1:RS ay w0 X0 a1 o_.Rows c1) :
  Ret Tryz.prog 53 #[.agg #[.int .i64 o_.ar,.int .i64 o_.aw,.int .i64 o_.aC,.slice a1 o_.Rows.length c1]] aJ w0 X0 (fun w X' v=>∃ r,Q r/\v=.tuple #[.int .i64 r.1,.int .i64 r.2]):=by
 unfold VC53 at hm
 replace hm:=hm (h1.sm kr)
 refine enter Tryz.func53 rfl (vals:=[.agg #[.int .i64 o_.ar,.int .i64 o_.aw,.int .i64 o_.aC,.slice a1 o_.Rows.length c1]]) kr ?_
 intro Z a hS hO hM
 replace h1:=h1.m0 hM
 refine rM T hS ⟨[(1,Pt 2 0)],[(2,(48,(cO o_ a1 c1)))]⟩ fun Z a ru rI hS hE hr=>?_
 replace hO:=hO.m2 hE
 replace h1:=h1.m1 hE
 clear hE hr
 refine bc ?_
 refine bT (fun a w=>∃ (Z:Nat->Nat) (X:Nat->Nat) (bD:Bool),VC53_J1 o_ Q bD/\St Tryz.f53.ntmps ⟨[(1,Pt 2 0),(25,B bD)],[(2,(48,(cO o_ a1 c1)))]⟩ Z a w X/\Old w0 X0 w X/\RS ay w X a1 o_.Rows c1) ?_ ?_
 ·refine region ?_
  refine oPe T hS 3 [] [(8,I (wR (o_.ar - 1)))] fun a hS=>?_
  refine op1 (call hS kr kr hb81 kr (fun _ _=>rfl) (AR _ _ (wR (o_.ar - 1)) 32) ?_)
  intro v114 a pt ue hE hp hS
  replace hO:=hO.m2 hE
  replace h1:=h1.m1 hE
  obtain ⟨d7,hr⟩:∃ r,b0 (wR (o_.ar - 1)) 32=r:=⟨_,rfl⟩
  replace hm:=hm d7 hr
  rw [hr] at hp
  clear hr
  subst hp
  refine oPe T hS 2 [8,9] [(11,B (!d7))] fun a hS=>?_
  rcases bft (!d7) with hb | hb
  ·replace hS:=hS.lit (t:=11) kr hb
   replace hm:=hm.1 hb
   refine ePe T hS [11] [(25,B true)] fun a hS=>?_
   exact ⟨Z,_,true,hm,hS.sl _,hO,h1⟩
  replace hS:=hS.lit (t:=11) kr hb
  replace hm:=hm.2 hb
  refine oPe T hS 3 [] [(14,I (wR (o_.aw - 1)))] fun a hS=>?_
  refine op1 (call hS kr kr hb81 kr (fun _ _=>rfl) (AR _ _ (wR (o_.aw - 1)) 64) ?_)
  intro v118 a uq AL hE hp hS
  replace hO:=hO.m2 hE
  replace h1:=h1.m1 hE
  obtain ⟨d8,hr⟩:∃ r,b0 (wR (o_.aw - 1)) 64=r:=⟨_,rfl⟩
  replace hm:=hm d8 hr
  rw [hr] at hp
  clear hr
  subst hp
  refine oPe T hS 3 [11,14,15] [(18,B (!d8))] fun a hS=>?_
  rcases bft (!d8) with hb | hb
  ·replace hS:=hS.lit (t:=18) kr hb
   replace hm:=hm.1 hb
   refine ePe T hS [18] [(25,B true)] fun a hS=>?_
   exact ⟨Z,_,true,hm,hS.sl _,hO,h1⟩
  replace hS:=hS.lit (t:=18) kr hb
  replace hm:=hm.2 hb
  refine oPe T hS 4 [] [(20,I o_.aC),(22,I o_.ar)] fun a hS=>?_
  refine op1 (call hS kr kr hb81 kr (fun _ _=>rfl) (AR _ _ o_.aC o_.ar) ?_)
  intro v122 a DJ wb hE hp hS
  replace hO:=hO.m2 hE
  replace h1:=h1.m1 hE
  obtain ⟨jk,hr⟩:∃ r,b0 o_.aC o_.ar=r:=⟨_,rfl⟩
  replace hm:=hm jk hr
  rw [hr] at hp
  clear hr
  subst hp
  refine ePe T hS [18,20,22,23] [(25,B (!jk))] fun a hS=>?_
  exact ⟨Z,_,(!jk),hm,hS.sl _,hO,h1⟩
 rintro a sS ⟨Z,xF,bD,hm,hS,hO,h102⟩
 unfold VC53_J1 at hm
 refine aG hS (b:=bD) kr (fun hb=>?_) fun hb=>?_
 ·replace hm:=hm.1 hb
  refine rP T hS ⟨[(2,I (-1)),(3,I 2)],[]⟩ fun a hS=>?_
  refine aY ?_
  exact fin T hS hO (fun c=>c) rfl (r:=[.int .i64 (-1),.int .i64 2]) kr (fun X' hM hC=>⟨((-1),2),hm,rfl⟩)
 replace hm:=hm.2 hb
 refine aH ?_
 refine bT (fun a w=>∃ Z X,VC53_J2 o_ Q/\St Tryz.f53.ntmps ⟨[(1,Pt 2 0)],[(2,(48,(cO o_ a1 c1)))]⟩ Z a w X/\Old w0 X0 w X/\RS ay w X a1 o_.Rows c1) ?_ ?_
 ·refine rPe T hS [25] [(28,I (lN o_.Rows)),(29,I 0)] fun a hS=>?_
  refine aL ?_
  obtain ⟨I1,μ1,co,hm⟩:=hm
  refine cl (σ:=Int) (fun s a w=>∃ Z X,I1 s/\St Tryz.f53.ntmps ⟨[(1,Pt 2 0),(28,I (lN o_.Rows)),(29,I s)],[(2,(48,(cO o_ a1 c1)))]⟩ Z a w X/\Old w0 X0 w X/\RS ay w X a1 o_.Rows c1) (fun s=>μ1 s) (0) ?_ ?_
  ·exact ⟨Z,_,co,hS.sl _,hO,h102⟩
  rintro hJ a DK ⟨Z,ug,hI,hS,hO,h105⟩
  replace hm:=hm hJ hI
  clear hI co
  refine rPe T hS [] [(30,B (decide (hJ < (lN o_.Rows))))] fun a hS=>?_
  refine bc ?_
  refine aG hS (b:=decide (hJ < (lN o_.Rows))) kr (fun hb=>?_) fun hb=>?_
  ·replace hm:=hm.1 hb
   refine aH (bc ?_)
   refine aL ?_
   refine rPe T hS [30] [(4,I hJ)] fun a hS=>?_
   refine bj ?_
   refine oPe T hS 2 [] [(32,V (.agg #[.int .i64 o_.ar,.int .i64 o_.aw,.int .i64 o_.aC,.slice a1 o_.Rows.length c1])),(33,I hJ)] fun a hS=>?_
   obtain ⟨hq,hm⟩:=hm
   refine op1 (call hS kr kr hb82 kr (fun _ _=>rfl) (Lw _ _ o_ hJ a1 c1 hq h105) ?_)
   intro v106 a rz pI hE hp hS
   replace hO:=hO.m2 hE
   replace h105:=h105.m1 hE
   obtain ⟨iU,hr⟩:∃ r,hX o_ hJ=r:=⟨_,rfl⟩
   replace hm:=hm iU hr
   rw [hr] at hp
   clear hr
   subst hp
   refine ePe T hS [32,33,34] [(5,I iU)] fun a hS=>?_
   refine rPe T hS [] [(36,B (iU != 0))] fun a hS=>?_
   refine aG hS (b:=(iU != 0)) kr (fun hb=>?_) fun hb=>?_
   ·replace hm:=hm.1 hb
    refine rP T hS ⟨[(2,I hJ),(3,I iU)],[]⟩ fun a hS=>?_
    refine aY ?_
    exact fin T hS hO (fun c=>c) rfl (r:=[.int .i64 hJ,.int .i64 iU]) kr (fun X' hM hC=>⟨(hJ,iU),hm,rfl⟩)
   replace hm:=hm.2 hb
   refine aH ?_
   refine region (ePe T hS [4,5,36] [(29,I (wR (hJ+1)))] fun a hS=>?_)
   exact ⟨wR (hJ+1),⟨Z,_,hm.1,hS.sl _,hO,h105⟩,hm.2⟩
  replace hm:=hm.2 hb
  refine cb (by rfl) ?_
  exact ⟨Z,_,hm,hS.sl _,hO,h105⟩
 rintro a ur ⟨Z,rJ,hm,hS,hO,h103⟩
 unfold VC53_J2 at hm
 refine rP T hS ⟨[(2,I (lN o_.Rows)),(3,I 0)],[]⟩ fun a hS=>?_
 refine aY ?_
 exact fin T hS hO (fun c=>c) rfl (r:=[.int .i64 (lN o_.Rows),.int .i64 0]) kr (fun X' hM hC=>⟨((lN o_.Rows),0),hm,rfl⟩)
theorem C53 (AR:S81) (Lw:S82) (v:∀ (o_:ae),kx o_->VC53 o_ (fun r=>r=bp o_)):S53:=by
 intro w X o_ a1 c1   hp h1
 refine (W53 AR Lw w X o_ a1 c1   _ (v o_ hp) h1).mono ?_
 rintro _ _ _ _ ⟨r,rfl,h⟩
 exact h
theorem W85 (tH:S53) (w0) (X0) (o_:ae) (state:Int) (a1) (c1) (Q:Int->Prop) (hm:VC85 o_ state Q) (h1:RS ay w0 X0 a1 o_.Rows c1) :
  Ret Tryz.prog 85 #[.agg #[.int .i64 o_.ar,.int .i64 o_.aw,.int .i64 o_.aC,.slice a1 o_.Rows.length c1],.int .i64 state] aJ w0 X0 (fun w X' v=>∃ r,Q r/\v=.int .i64 r):=by
 unfold VC85 at hm
 replace hm:=hm (h1.sm kr)
 refine enter Tryz.func85 rfl (vals:=[.agg #[.int .i64 o_.ar,.int .i64 o_.aw,.int .i64 o_.aC,.slice a1 o_.Rows.length c1],.int .i64 state]) kr ?_
 intro Z a hS hO hM
 replace h1:=h1.m0 hM
 refine rM T hS ⟨[(1,I state),(2,Pt 3 0)],[(3,(48,(cO o_ a1 c1)))]⟩ fun Z a nG ms hS hE hr=>?_
 replace hO:=hO.m2 hE
 replace h1:=h1.m1 hE
 clear hE hr
 refine bc ?_
 refine bj ?_
 refine oPe T hS 1 [] [(8,V (.agg #[.int .i64 o_.ar,.int .i64 o_.aw,.int .i64 o_.aC,.slice a1 o_.Rows.length c1]))] fun a hS=>?_
 obtain ⟨hq,hm⟩:=hm
 refine op1 (call hS kr kr hb53 kr (fun _ _=>rfl) (tH _ _ o_ a1 c1 hq h1) ?_)
 intro v101 a eZ fa hE hp hS
 replace hO:=hO.m2 hE
 replace h1:=h1.m1 hE
 obtain ⟨ap,hr⟩:∃ r,bp o_=r:=⟨_,rfl⟩
 replace hm:=hm ap hr
 rw [hr] at hp
 clear hr
 subst hp
 refine ePe T hS [8,9] [(6,I ap.2)] fun a hS=>?_
 refine rPe T hS [6] [(13,B (ap.2 != 0))] fun a hS=>?_
 refine aG hS (b:=(ap.2 != 0)) kr (fun hb=>?_) fun hb=>?_
 ·replace hm:=hm.1 hb
  refine rP T hS ⟨[(4,I 2)],[]⟩ fun a hS=>?_
  refine aY ?_
  exact fin T hS hO (fun c=>c) rfl (r:=[.int .i64 2]) kr (fun X' hM hC=>⟨2,hm,rfl⟩)
 replace hm:=hm.2 hb
 refine aH (bc ?_)
 refine rP T hS ⟨[(21,B ((decide (state < 0)) || (decide (state≥o_.ar))))],[]⟩ (sp:=[16]) fun a hS=>?_
 refine aG hS (b:=((decide (state < 0)) || (decide (state≥o_.ar)))) kr (fun hb=>?_) fun hb=>?_
 ·replace hm:=hm.1 hb
  refine rPe T hS [21] [(4,I 30)] fun a hS=>?_
  refine aY ?_
  exact fin T hS hO (fun c=>c) rfl (r:=[.int .i64 30]) kr (fun X' hM hC=>⟨30,hm,rfl⟩)
 replace hm:=hm.2 hb
 refine aH ?_
 refine rPe T hS [21] [(4,I 0)] fun a hS=>?_
 refine aY ?_
 exact fin T hS hO (fun c=>c) rfl (r:=[.int .i64 0]) kr (fun X' hM hC=>⟨0,hm,rfl⟩)
theorem C85 (tH:S53) (v:∀ (o_:ae) (state:Int),yc o_ state->VC85 o_ state (fun r=>r=eK o_ state)):S85:=by
 intro w X o_ state a1 c1   hp h1
 refine (W85 tH w X o_ state a1 c1   _ (v o_ state hp) h1).mono ?_
 rintro _ _ _ _ ⟨r,rfl,h⟩
 exact h
theorem W86 (w0) (X0) (o_:ae) (l_:List ab) (state:Int) (a1) (c1) (a2) (c2) (cG) (dS) (jp) (oU) (oT) (Q:(List ab) × (List (Int × Int)) × ae × Int->Prop) (hm:VC86 o_ l_ state Q) (h1:RS ay w0 X0 a1 o_.Rows c1) (h2:RS ao w0 X0 a2 l_ c2) :
  Ret Tryz.prog 86 #[.agg #[.int .i64 o_.ar,.int .i64 o_.aw,.int .i64 o_.aC,.slice a1 o_.Rows.length c1],.slice a2 l_.length c2,.int .i64 state] aJ w0 X0 (fun w X' v=>∃ r,Q r/\∃ cn cm Ih o9 o8 ut Im Il Ik,v=.func (.func 97) #[] #[.pointer (some ⟨ut,0,none⟩),.pointer (some ⟨Im,0,none⟩),.pointer (some ⟨Il,0,none⟩),.pointer (some ⟨Ik,0,none⟩)]/\RS ao w X' cn r.1 cm/\RS ay w X' o9 r.2.2.1.Rows o8/\Cell w X' ut dS 42 [.slice cn r.1.length cm]/\Cell w X' Im jp 113 [.map (some Ih)]/\OM kI tI false w X' cG Ih r.2.1/\Cell w X' Il oU 48 [.int .i64 r.2.2.1.ar,.int .i64 r.2.2.1.aw,.int .i64 r.2.2.1.aC,.slice o9 r.2.2.1.Rows.length o8]/\Cell w X' Ik oT 3 [.int .i64 r.2.2.2]):=by
 unfold VC86 at hm
 replace hm:=hm (h1.sm kr)
 replace hm:=hm (h2.sm kr)
 refine enter Tryz.func86 rfl (vals:=[.agg #[.int .i64 o_.ar,.int .i64 o_.aw,.int .i64 o_.aC,.slice a1 o_.Rows.length c1],.slice a2 l_.length c2,.int .i64 state]) kr ?_
 intro Z a hS hO hM
 replace h1:=h1.m0 hM
 replace h2:=h2.m0 hM
 refine rM T hS ⟨[(3,Pt 4 0),(4,Pt 5 0),(5,Pt 6 0)],[(4,(48,(cO o_ a1 c1))),(5,(42,[Sl a2 l_ c2])),(6,(3,[I state]))]⟩ fun Z a rz pI hS hE hr=>?_
 replace hO:=hO.m2 hE
 replace h1:=h1.m1 hE
 replace h2:=h2.m1 hE
 clear hE hr
 refine bj ?_
 refine op1 (pc kI tI false 1009 hS kr kr ?_)
 intro d4 a eZ fa hE h104 hS
 replace hO:=hO.m2 hE
 replace h1:=h1.m1 hE
 replace h2:=h2.m1 hE
 refine eM T hS ⟨[(3,Pt 4 0),(4,Pt 5 0),(5,Pt 6 0),(7,Pt 8 0)],[(4,(48,(cO o_ a1 c1))),(5,(42,[Sl a2 l_ c2])),(6,(3,[I state])),(8,(113,[V (.map (some d4))]))]⟩ fun Z a nG ms hS hE hr=>?_
 replace hO:=hO.m2 hE
 replace h1:=h1.m1 hE
 replace h2:=h2.m1 hE
 replace h104:=h104.m2 hE
 clear hE hr
 refine rPe T hS [3,4,5,7] [(6,.f (.func 97) [] [.p 5 0,.p 8 0,.p 4 0,.p 6 0])] fun a hS=>?_
 refine aY ?_
 exact fin T hS hO (zAa0 oT oU jp dS cG) rfl (r:=[.func (.func 97) #[] #[.pointer (some ⟨Z 5,0,none⟩),.pointer (some ⟨Z 8,0,none⟩),.pointer (some ⟨Z 4,0,none⟩),.pointer (some ⟨Z 6,0,none⟩)]]) kr (fun X' hM hC=>⟨(l_,([]:List (Int × Int)),o_,state),hm,a2,c2,d4,a1,c1,(Z 5),(Z 8),(Z 4),(Z 6),rfl,h2.m0 hM,h1.m0 hM,((hS.cell (id:=5) (t:=42) (cs:=[Sl a2 l_ c2]) kr).out (f:=(zAa0 oT oU jp dS cG)) hC kr kr rfl),((hS.cell (id:=8) (t:=113) (cs:=[V (.map (some d4))]) kr).out (f:=(zAa0 oT oU jp dS cG)) hC kr kr rfl),(h104.out (f:=(zAa0 oT oU jp dS cG)) hM hC kr kr),((hS.cell (id:=4) (t:=48) (cs:=(cO o_ a1 c1)) kr).out (f:=(zAa0 oT oU jp dS cG)) hC kr kr rfl),((hS.cell (id:=6) (t:=3) (cs:=[I state]) kr).out (f:=(zAa0 oT oU jp dS cG)) hC kr kr rfl)⟩)
theorem C86 (v:∀ (o_:ae) (l_:List ab) (state:Int),VC86 o_ l_ state (fun r=>r=ep o_ l_ state)):S86:=by
 intro w X o_ l_ state a1 c1 a2 c2 cG dS jp oU oT  h1 h2
 refine (W86 w X o_ l_ state a1 c1 a2 c2 cG dS jp oU oT  _ (v o_ l_ state) h1 h2).mono ?_
 rintro _ _ _ _ ⟨r,rfl,h⟩
 exact h
theorem W110 (w0) (X0) (r_:ba) (am:Int) (av:Int) (b1) (i1) (b2) (i2) (Q:Bool->Prop) (hm:VC110 r_ am av Q) (fw:Cell w0 X0 b1 i1 3 [.int .i64 am]) (gF:Cell w0 X0 b2 i2 3 [.int .i64 av]) (hA:dW [i1,i2]) :
  Ret Tryz.prog 110 #[.agg #[.int .i64 r_.State,.int .i64 r_.Kind,.int .i64 r_.Next,.int .i64 r_.Result],.pointer (some ⟨b1,0,none⟩),.pointer (some ⟨b2,0,none⟩)] (pR [i1,i2]) w0 X0 (fun w X' v=>∃ r,Q r/\v=.bool r/\Cell w X' b1 i1 3 [.int .i64 am]/\Cell w X' b2 i2 3 [.int .i64 av]):=by
 unfold VC110 at hm
 refine fM Tryz.func110 rfl (dH [(i1,901),(i2,902)]) (fun id=>(bif Nat.beq id 901 then b1 else (bif Nat.beq id 902 then b2 else 0))) (args:=[V (.agg #[.int .i64 r_.State,.int .i64 r_.Kind,.int .i64 r_.Next,.int .i64 r_.Result]),Pt 901 0,Pt 902 0]) (bxs:=[(901,(3,[I am])),(902,(3,[I av]))]) kr rfl (bn.cons kr (fw.map (bM 0 hA.1 rfl)) (bn.cons kr (gF.map (bM 1 hA.1 rfl)) bn.nil)) (fA (fun q hq=>(hA.2 q.1 (List.mem_map.2 ⟨q,hq,rfl⟩)).1)) ?_
 intro a hS hO hM
 have hP:Pin [(901,b1),(902,b2)] (fun id=>(bif Nat.beq id 901 then b1 else (bif Nat.beq id 902 then b2 else 0))):=by intro q hq; simp at hq; rcases hq with rfl | rfl <;> rfl
 generalize (fun id=>(bif Nat.beq id 901 then b1 else (bif Nat.beq id 902 then b2 else 0)))=Z at hS hP
 clear fw gF
 refine rM T hS ⟨[(1,Pt 901 0),(2,Pt 902 0),(3,Pt 4 0)],[(4,(107,(cR r_))),(901,(3,[I am])),(902,(3,[I av]))]⟩ fun Z a oE o3 hS hE hr=>?_
 replace hO:=hO.m2 hE
 replace hP:=hP.mv hr kr
 clear hE hr
 refine bj ?_
 refine oP T hS 8 ⟨[(5,V (.agg #[.int .i64 r_.State,.int .i64 r_.Kind,.int .i64 r_.Next,.int .i64 r_.Result])),(12,V (.agg #[.int .i64 am,.int .i64 av,.int .i64 r_.Next,.int .i64 r_.Result]))],[(901,(3,[I am])),(902,(3,[I av]))]⟩ fun a hS=>?_
 refine op1 (structEq (op:=.eql) (xs:=[.int .i64 r_.State,.int .i64 r_.Kind,.int .i64 r_.Next,.int .i64 r_.Result]) (ys:=[.int .i64 am,.int .i64 av,.int .i64 r_.Next,.int .i64 r_.Result]) (r:=(r_.State == am && (r_.Kind == av && (r_.Next == r_.Next && (r_.Result == r_.Result && true))))) (b:=(r_.State == am && (r_.Kind == av && (r_.Next == r_.Next && (r_.Result == r_.Result && true))))) T hS kr kr kr kr kr kr kr kr ?_)
 intro a hS
 refine ePe T hS [5,12,13] [(4,B (r_.State == am && (r_.Kind == av && (r_.Next == r_.Next && (r_.Result == r_.Result && true)))))] fun a hS=>?_
 refine aY ?_
 exact gG T hS hO (fun c h=>bW kr h) (fun c h=>bX (l:=[(i1,901),(i2,902)]) h) (bR [(i1,901),(i2,902)]) rfl (r:=[.bool (r_.State == am && (r_.Kind == av && (r_.Next == r_.Next && (r_.Result == r_.Result && true))))]) kr (fun X' hM hC=>⟨(r_.State == am && (r_.Kind == av && (r_.Next == r_.Next && (r_.Result == r_.Result && true)))),hm,rfl,((hS.cell (id:=901) (t:=3) (cs:=[I am]) kr).out (f:=(bR [(i1,901),(i2,902)])) hC kr kr (hP.at 0 rfl)),((hS.cell (id:=902) (t:=3) (cs:=[I av]) kr).out (f:=(bR [(i1,901),(i2,902)])) hC kr kr (hP.at 1 rfl))⟩)
theorem C110 (v:∀ (r_:ba) (am:Int) (av:Int),VC110 r_ am av (fun r=>r=gq r_ am av)):S110:=by
 intro w X r_ am av   b1 i1 b2 i2 fw gF hA
 refine (W110 w X r_ am av   b1 i1 b2 i2 _ (v r_ am av) fw gF hA).mono ?_
 rintro _ _ _ _ ⟨r,rfl,h⟩
 exact h
theorem W111_110 (GI:S110) (w0) (X0) (s_:List ba) (am:Int) (av:Int) (a1) (c1) (b1) (i1) (b2) (i2) (Q:Int->Prop) (hm:VC111_110 s_ am av Q) (h1:RS ay w0 X0 a1 s_ c1) (fw:Cell w0 X0 b1 i1 3 [.int .i64 am]) (gF:Cell w0 X0 b2 i2 3 [.int .i64 av]) (hA:dW [i1,i2]) :
  Ret Tryz.prog 111 #[.slice a1 s_.length c1,.func (.func 110) #[] #[.pointer (some ⟨b1,0,none⟩),.pointer (some ⟨b2,0,none⟩)]] (pR [i1,i2]) w0 X0 (fun w X' v=>∃ r,Q r/\v=.int .i64 r/\Cell w X' b1 i1 3 [.int .i64 am]/\Cell w X' b2 i2 3 [.int .i64 av]):=by
 unfold VC111_110 at hm
 replace hm:=hm (h1.sm kr)
 refine fM Tryz.func111 rfl (dH [(i1,901),(i2,902)]) (fun id=>(bif Nat.beq id 901 then b1 else (bif Nat.beq id 902 then b2 else 0))) (args:=[Sl a1 s_ c1,.f (.func 110) [] [.p 901 0,.p 902 0]]) (bxs:=[(901,(3,[I am])),(902,(3,[I av]))]) kr rfl (bn.cons kr (fw.map (bM 0 hA.1 rfl)) (bn.cons kr (gF.map (bM 1 hA.1 rfl)) bn.nil)) (fA (fun q hq=>(hA.2 q.1 (List.mem_map.2 ⟨q,hq,rfl⟩)).1)) ?_
 intro a hS hO hM
 have hP:Pin [(901,b1),(902,b2)] (fun id=>(bif Nat.beq id 901 then b1 else (bif Nat.beq id 902 then b2 else 0))):=by intro q hq; simp at hq; rcases hq with rfl | rfl <;> rfl
 generalize (fun id=>(bif Nat.beq id 901 then b1 else (bif Nat.beq id 902 then b2 else 0)))=Z at hS hP
 clear fw gF
 replace h1:=h1.m0 hM
 refine rPe T hS [] [] fun a hS=>?_
 refine bT (fun a w=>∃ Z X,VC111_110_J1 Q/\St Tryz.f111.ntmps ⟨[],[(901,(3,[I am])),(902,(3,[I av]))]⟩ Z a w X/\gf (dH [(i1,901),(i2,902)]) w0 X0 w X/\Pin [(901,b1),(902,b2)] Z) ?_ ?_
 ·refine rPe T hS [] [(7,I (lN s_)),(8,I 0)] fun a hS=>?_
  refine aL ?_
  obtain ⟨I1,μ1,co,hm⟩:=hm
  refine cl (σ:=Int) (fun s a w=>∃ Z X,I1 s/\St Tryz.f111.ntmps ⟨[(0,Sl a1 s_ c1),(1,.f (.func 110) [] [.p 901 0,.p 902 0]),(7,I (lN s_)),(8,I s)],[(901,(3,[I am])),(902,(3,[I av]))]⟩ Z a w X/\gf (dH [(i1,901),(i2,902)]) w0 X0 w X/\Pin [(901,b1),(902,b2)] Z/\RS ay w X a1 s_ c1) (fun s=>μ1 s) (0) ?_ ?_
  ·exact ⟨Z,_,co,hS.sl _,hO,hP,h1⟩
  rintro bu a ur ⟨Z,rJ,hI,hS,hO,hP,h101⟩
  replace hm:=hm bu hI
  clear hI co
  refine rPe T hS [] [(9,B (decide (bu < (lN s_))))] fun a hS=>?_
  refine bc ?_
  refine aG hS (b:=decide (bu < (lN s_))) kr (fun hb=>?_) fun hb=>?_
  ·replace hm:=hm.1 hb
   refine aH (bc ?_)
   refine aL ?_
   refine rPe T hS [9] [(5,I bu)] fun a hS=>?_
   refine bj ?_
   refine oPe T hS 3 [] [(11,.f (.func 110) [] [.p 901 0,.p 902 0]),(12,Sl a1 s_ c1),(13,I bu)] fun a hS=>?_
   obtain ⟨hq,hm⟩:=hm
   refine op1 (index (e:=107) (k:=.i64) T hS kr kr kr kr h101 kr kr hq.1 hq.2 ?_)
   intro ui a h104 hS
   refine op1 (eC T hS kr kr kr h104 kr kr ?_)
   intro v105 a hv hS
   subst hv
   refine op1 (kd (fi:=[]) (cp:=[.p 901 0,.p 902 0]) hS kr kr hb110 kr kr (GI _ _ (gi s_ bu) am av (Z 901) 901 (Z 902) 902 (hS.cell (id:=901) (t:=3) (cs:=[I am]) kr) (hS.cell (id:=902) (t:=3) (cs:=[I av]) kr) ⟨by decide,by decide⟩) ?_)
   intro v106 a rz pI hE hp hS
   replace hO:=hO.m2 hE
   replace h101:=h101.m1 hE
   replace h104:=h104.m1 hE
   obtain ⟨hp,vh,vg⟩:=hp
   obtain ⟨iU,hr⟩:∃ r,gq (gi s_ bu) am av=r:=⟨_,rfl⟩
   replace hm:=hm iU hr
   rw [hr] at hp
   clear hr
   subst hp
   replace hS:=hS.cD (id:=901) (t:=3) (cs:=[I am]) kr vh
   replace hS:=hS.cD (id:=902) (t:=3) (cs:=[I av]) kr vg
   clear vh vg
   refine gX ?_
   refine aG hS (b:=iU) kr (fun hb=>?_) fun hb=>?_
   ·replace hm:=hm.1 hb
    refine rPe T hS [0,1,5,7,8,16] [(4,I bu)] fun a hS=>?_
    refine aY ?_
    exact gG T hS hO (fun c h=>bW kr h) (fun c h=>bX (l:=[(i1,901),(i2,902)]) h) (bR [(i1,901),(i2,902)]) rfl (r:=[.int .i64 bu]) kr (fun X' hM hC=>⟨bu,hm,rfl,((hS.cell (id:=901) (t:=3) (cs:=[I am]) kr).out (f:=(bR [(i1,901),(i2,902)])) hC kr kr (hP.at 0 rfl)),((hS.cell (id:=902) (t:=3) (cs:=[I av]) kr).out (f:=(bR [(i1,901),(i2,902)])) hC kr kr (hP.at 1 rfl))⟩)
   replace hm:=hm.2 hb
   refine aH ?_
   refine region (ePe T hS [5,16] [(8,I (wR (bu+1)))] fun a hS=>?_)
   exact ⟨wR (bu+1),⟨Z,_,hm.1,hS.sl _,hO,hP,h101⟩,hm.2⟩
  replace hm:=hm.2 hb
  refine cb (by rfl) ?_
  exact ⟨Z,_,hm,hS.sl _,hO,hP⟩
 rintro a pt ⟨Z,wc,hm,hS,hO,hP⟩
 unfold VC111_110_J1 at hm
 refine rPe T hS [] [(4,I (-1))] fun a hS=>?_
 refine aY ?_
 exact gG T hS hO (fun c h=>bW kr h) (fun c h=>bX (l:=[(i1,901),(i2,902)]) h) (bR [(i1,901),(i2,902)]) rfl (r:=[.int .i64 (-1)]) kr (fun X' hM hC=>⟨(-1),hm,rfl,((hS.cell (id:=901) (t:=3) (cs:=[I am]) kr).out (f:=(bR [(i1,901),(i2,902)])) hC kr kr (hP.at 0 rfl)),((hS.cell (id:=902) (t:=3) (cs:=[I av]) kr).out (f:=(bR [(i1,901),(i2,902)])) hC kr kr (hP.at 1 rfl))⟩)
theorem C111_110 (GI:S110) (v:∀ (s_:List ba) (am:Int) (av:Int),VC111_110 s_ am av (fun r=>r=bg s_ am av)):S111_110:=by
 intro w X s_ am av a1 c1  b1 i1 b2 i2 h1 fw gF hA
 refine (W111_110 GI w X s_ am av a1 c1  b1 i1 b2 i2 _ (v s_ am av) h1 fw gF hA).mono ?_
 rintro _ _ _ _ ⟨r,rfl,h⟩
 exact h
theorem W103 (qr:S111_110) (w0) (X0) (o_:ae) (state:Int) (kind:Int) (a1) (c1) (Q:Int × Int × Bool->Prop) (hm:VC103 o_ state kind Q) (h1:RS ay w0 X0 a1 o_.Rows c1) :
  Ret Tryz.prog 103 #[.agg #[.int .i64 o_.ar,.int .i64 o_.aw,.int .i64 o_.aC,.slice a1 o_.Rows.length c1],.int .i64 state,.int .i64 kind] aJ w0 X0 (fun w X' v=>∃ r,Q r/\v=.tuple #[.int .i64 r.1,.int .i64 r.2.1,.bool r.2.2]):=by
 unfold VC103 at hm
 replace hm:=hm (h1.sm kr)
 refine enter Tryz.func103 rfl (vals:=[.agg #[.int .i64 o_.ar,.int .i64 o_.aw,.int .i64 o_.aC,.slice a1 o_.Rows.length c1],.int .i64 state,.int .i64 kind]) kr ?_
 intro Z a hS hO hM
 replace h1:=h1.m0 hM
 refine rM T hS ⟨[(3,Pt 4 0),(4,Pt 5 0),(5,Pt 6 0)],[(4,(48,(cO o_ a1 c1))),(5,(3,[I state])),(6,(3,[I kind]))]⟩ fun Z a uq AL hS hE hr=>?_
 replace hO:=hO.m2 hE
 replace h1:=h1.m1 hE
 clear hE hr
 refine rPe T hS [4,5] [(9,.f (.func 110) [] [.p 5 0,.p 6 0])] fun a hS=>?_
 refine bj ?_
 refine oPe T hS 3 [9] [(13,Sl a1 o_.Rows c1),(14,.f (.func 110) [] [.p 5 0,.p 6 0])] fun a hS=>?_
 refine op1 (l5 hS kr kr hb111 kr (qr _ _ o_.Rows state kind a1 c1 (Z 5) 5 (Z 6) 6 h1 (hS.cell (id:=5) (t:=3) (cs:=[I state]) kr) (hS.cell (id:=6) (t:=3) (cs:=[I kind]) kr) ⟨by decide,by decide⟩) ?_)
 intro v101 a eZ fa hE hp hS
 replace hO:=hO.m2 hE
 replace h1:=h1.m1 hE
 obtain ⟨hp,vj,vi⟩:=hp
 obtain ⟨ap,hr⟩:∃ r,bg o_.Rows state kind=r:=⟨_,rfl⟩
 replace hm:=hm ap hr
 rw [hr] at hp
 clear hr
 subst hp
 replace hS:=hS.cD (id:=5) (t:=3) (cs:=[I state]) kr vj
 replace hS:=hS.cD (id:=6) (t:=3) (cs:=[I kind]) kr vi
 clear vj vi
 refine eP T hS ⟨[(3,Pt 4 0),(10,I ap)],[(4,(48,(cO o_ a1 c1)))]⟩ fun a hS=>?_
 refine bc ?_
 refine rPe T hS [] [(17,B (decide (ap < 0)))] fun a hS=>?_
 refine aG hS (b:=decide (ap < 0)) kr (fun hb=>?_) fun hb=>?_
 ·replace hm:=hm.1 hb
  refine rP T hS ⟨[(6,I 0),(7,I 0),(8,B false)],[]⟩ fun a hS=>?_
  refine aY ?_
  exact fin T hS hO (fun c=>c) rfl (r:=[.int .i64 0,.int .i64 0,.bool false]) kr (fun X' hM hC=>⟨(0,0,false),hm,rfl⟩)
 replace hm:=hm.2 hb
 refine aH ?_
 refine dv [4] mixed hS ?_
 intro rz pI hS hE hD hH
 replace hO:=hO.m2 hE
 replace h1:=h1.m1 hE
 refine tke T [0,2,6,8,1,7] [4] hS hH #[true,true,true,false,false,false,true,true,true,false,false,false,false,false,false] 9 [3,10] [(19,Sl a1 o_.Rows c1),(20,I ap),(25,Sl a1 o_.Rows c1),(26,I ap)] fun a hS=>?_
 obtain ⟨hq,hm⟩:=hm
 refine c7 (e:=107) (k:=.i64) T 3 hS kr kr kr (by rfl) kr hH kr kr h1 kr kr hq.1 hq.2 ?_
 intro AQ a h110 hS
 have mr:=h110.here
 refine dw (off:=2) (fsz:=1) (ft:=3) (TF:=tI) (y:=(gi o_.Rows ap).Next) 4 T hS kr kr kr (by rfl) kr hH kr h110 kr kr kr (fun cs h=>rm h) ?_
 intro Dk a h112 fP hS
 have yQ:=mr
 rw [← fP] at yQ
 clear fP
 refine dV T 5 hS kr kr kr (by rfl) kr hH kr h112 yQ rfl kr ?_
 intro v113 a hv hS
 cases hv
 refine tke T [12] [4] hS hH #[true,true,true,true,true,true,true,true,true,false,false,false,true,false,false] 5 [19,20,21,22,23] [(6,I ((gi o_.Rows ap).Next))] fun a hS=>?_
 obtain ⟨hq,hm⟩:=hm
 refine c7 (e:=107) (k:=.i64) T 9 hS kr kr kr (by rfl) kr hH kr kr h1 kr kr hq.1 hq.2 ?_
 intro E0 a h115 hS
 have qV:=h115.here
 refine dw (off:=3) (fsz:=1) (ft:=3) (TF:=tI) (y:=(gi o_.Rows ap).Result) 10 T hS kr kr kr (by rfl) kr hH kr h115 kr kr kr (fun cs h=>rl h) ?_
 intro HA a h117 fP hS
 have n4:=qV
 rw [← fP] at n4
 clear fP
 refine dV T 11 hS kr kr kr (by rfl) kr hH kr h117 n4 rfl kr ?_
 intro v118 a hv hS
 cases hv
 refine tke T [13,14] [4] hS hH (tts 15) 0 [25,26,27,28,29] [(7,I ((gi o_.Rows ap).Result)),(8,B true)] fun a hS=>?_
 refine aS kr ?_
 replace hS:=hS.sl ⟨[(6,I ((gi o_.Rows ap).Next)),(7,I ((gi o_.Rows ap).Result)),(8,B true)],[]⟩
 refine aY ?_
 exact fin T hS hO (fun c=>c) rfl (r:=[.int .i64 ((gi o_.Rows ap).Next),.int .i64 ((gi o_.Rows ap).Result),.bool true]) kr (fun X' hM hC=>⟨((gi o_.Rows ap).Next,(gi o_.Rows ap).Result,true),hm,rfl⟩)
theorem C103 (qr:S111_110) (v:∀ (o_:ae) (state:Int) (kind:Int),VC103 o_ state kind (fun r=>r=cu o_ state kind)):S103:=by
 intro w X o_ state kind a1 c1   h1
 refine (W103 qr w X o_ state kind a1 c1   _ (v o_ state kind) h1).mono ?_
 rintro _ _ _ _ ⟨r,rfl,h⟩
 exact h
theorem W109 (qO:S103) (w0) (X0) (t_:gU) (state:Int) (kind:Int) (a1) (c1) (Q:Int × Int × Bool->Prop) (hm:VC109 t_ state kind Q) (h1:RS ay w0 X0 a1 t_.o.Rows c1) :
  Ret Tryz.prog 109 #[.agg #[.int .i64 t_.o.ar,.int .i64 t_.o.aw,.int .i64 t_.o.aC,.slice a1 t_.o.Rows.length c1],.int .i64 state,.int .i64 kind] aJ w0 X0 (fun w X' v=>∃ r,Q r/\v=.tuple #[.int .i64 r.1,.int .i64 r.2.1,.bool r.2.2]):=by
 unfold VC109 at hm
 replace hm:=hm (h1.sm kr)
 refine enter Tryz.func109 rfl (vals:=[.agg #[.int .i64 t_.o.ar,.int .i64 t_.o.aw,.int .i64 t_.o.aC,.slice a1 t_.o.Rows.length c1],.int .i64 state,.int .i64 kind]) kr ?_
 intro Z a hS hO hM
 replace h1:=h1.m0 hM
 refine rM T hS ⟨[(1,I state),(2,I kind),(3,Pt 4 0)],[(4,(174,(cO t_.o a1 c1)))]⟩ fun Z a nG ms hS hE hr=>?_
 replace hO:=hO.m2 hE
 replace h1:=h1.m1 hE
 clear hE hr
 refine bj ?_
 refine oP T hS 4 ⟨[(10,V (.agg #[.int .i64 t_.o.ar,.int .i64 t_.o.aw,.int .i64 t_.o.aC,.slice a1 t_.o.Rows.length c1])),(11,I state),(12,I kind)],[]⟩ fun a hS=>?_
 refine op1 (call hS kr kr hb103 kr (fun _ _=>rfl) (qO _ _ t_.o state kind a1 c1 h1) ?_)
 intro v101 a eZ fa hE hp hS
 replace hO:=hO.m2 hE
 replace h1:=h1.m1 hE
 obtain ⟨ap,hr⟩:∃ r,cu t_.o state kind=r:=⟨_,rfl⟩
 replace hm:=hm ap hr
 rw [hr] at hp
 clear hr
 subst hp
 refine ePe T hS [10,11,12,13] [(6,I ap.1),(7,I ap.2.1),(8,B ap.2.2)] fun a hS=>?_
 refine aY ?_
 exact fin T hS hO (fun c=>c) rfl (r:=[.int .i64 ap.1,.int .i64 ap.2.1,.bool ap.2.2]) kr (fun X' hM hC=>⟨(ap.1,ap.2.1,ap.2.2),hm,rfl⟩)
theorem C109 (qO:S103) (v:∀ (t_:gU) (state:Int) (kind:Int),VC109 t_ state kind (fun r=>r=eQ t_ state kind)):S109:=by
 intro w X t_ state kind a1 c1   h1
 refine (W109 qO w X t_ state kind a1 c1   _ (v t_ state kind) h1).mono ?_
 rintro _ _ _ _ ⟨r,rfl,h⟩
 exact h
theorem W98 (GJ:S109) (w0) (X0) (o_:ae) (state:Int) (kind:Int) (result:Int) (a1) (c1) (Q:Int × Int->Prop) (hm:VC98 o_ state kind result Q) (h1:RS ay w0 X0 a1 o_.Rows c1) :
  Ret Tryz.prog 98 #[.agg #[.int .i64 o_.ar,.int .i64 o_.aw,.int .i64 o_.aC,.slice a1 o_.Rows.length c1],.int .i64 state,.int .i64 kind,.int .i64 result] aJ w0 X0 (fun w X' v=>∃ r,Q r/\v=.tuple #[.int .i64 r.1,.int .i64 r.2]):=by
 unfold VC98 at hm
 replace hm:=hm (h1.sm kr)
 refine enter Tryz.func98 rfl (vals:=[.agg #[.int .i64 o_.ar,.int .i64 o_.aw,.int .i64 o_.aC,.slice a1 o_.Rows.length c1],.int .i64 state,.int .i64 kind,.int .i64 result]) kr ?_
 intro Z a hS hO hM
 replace h1:=h1.m0 hM
 refine rM T hS ⟨[(1,I state),(2,I kind),(3,I result),(4,Pt 5 0)],[(5,(48,(cO o_ a1 c1)))]⟩ fun Z a nG ms hS hE hr=>?_
 replace hO:=hO.m2 hE
 replace h1:=h1.m1 hE
 clear hE hr
 refine bc ?_
 refine rPe T hS [] [(20,B ((decide (state < 0)) || (decide (state≥o_.ar))))] (sp:=[15]) fun a hS=>?_
 refine aG hS (b:=((decide (state < 0)) || (decide (state≥o_.ar)))) kr (fun hb=>?_) fun hb=>?_
 ·replace hm:=hm.1 hb
  refine rP T hS ⟨[(8,I 0),(9,I 30)],[]⟩ fun a hS=>?_
  refine aY ?_
  exact fin T hS hO (fun c=>c) rfl (r:=[.int .i64 0,.int .i64 30]) kr (fun X' hM hC=>⟨(0,30),hm,rfl⟩)
 replace hm:=hm.2 hb
 refine aH ?_
 refine rP T hS ⟨[(1,I state),(2,I kind),(3,I result),(10,.f (.func 109) [.v (.agg #[.int .i64 o_.ar,.int .i64 o_.aw,.int .i64 o_.aC,.slice a1 o_.Rows.length c1])] [])],[]⟩ fun a hS=>?_
 refine bj ?_
 refine oPe T hS 3 [1,2,10] [(25,.f (.func 109) [.v (.agg #[.int .i64 o_.ar,.int .i64 o_.aw,.int .i64 o_.aC,.slice a1 o_.Rows.length c1])] []),(26,I state),(27,I kind)] fun a hS=>?_
 refine op1 (FX (fi:=[.v (.agg #[.int .i64 o_.ar,.int .i64 o_.aw,.int .i64 o_.aC,.slice a1 o_.Rows.length c1])]) (cp:=[]) hS kr kr hb109 kr kr (fun _ _=>rfl) (GJ _ _ (⟨o_⟩:gU) state kind a1 c1 h1) ?_)
 intro v101 a eZ fa hE hp hS
 replace hO:=hO.m2 hE
 replace h1:=h1.m1 hE
 obtain ⟨ap,hr⟩:∃ r,eQ (⟨o_⟩:gU) state kind=r:=⟨_,rfl⟩
 replace hm:=hm ap hr
 rw [hr] at hp
 clear hr
 subst hp
 refine ePe T hS [25,26,27,28] [(8,I ap.1),(11,I ap.2.1),(12,B ap.2.2)] fun a hS=>?_
 refine bc ?_
 refine rPe T hS [3,11,12] [(38,B ((!ap.2.2) || (ap.2.1 != result)))] (sp:=[34]) fun a hS=>?_
 refine aG hS (b:=((!ap.2.2) || (ap.2.1 != result))) kr (fun hb=>?_) fun hb=>?_
 ·replace hm:=hm.1 hb
  refine rPe T hS [38] [(8,I 0),(9,I 40)] fun a hS=>?_
  refine aY ?_
  exact fin T hS hO (fun c=>c) rfl (r:=[.int .i64 0,.int .i64 40]) kr (fun X' hM hC=>⟨(0,40),hm,rfl⟩)
 replace hm:=hm.2 hb
 refine aH ?_
 refine rPe T hS [38] [(9,I 0)] fun a hS=>?_
 refine aY ?_
 exact fin T hS hO (fun c=>c) rfl (r:=[.int .i64 ap.1,.int .i64 0]) kr (fun X' hM hC=>⟨(ap.1,0),hm,rfl⟩)
theorem C98 (GJ:S109) (v:∀ (o_:ae) (state:Int) (kind:Int) (result:Int),VC98 o_ state kind result (fun r=>r=ix o_ state kind result)):S98:=by
 intro w X o_ state kind result a1 c1   h1
 refine (W98 GJ w X o_ state kind result a1 c1   _ (v o_ state kind result) h1).mono ?_
 rintro _ _ _ _ ⟨r,rfl,h⟩
 exact h
theorem W97 (Lj:S98) (w0) (X0) (p_:aa) (am:List ab) (av:List (Int × Int)) (aN:ae) (bC:Int) (a1) (c1) (r2) (m2) (a3) (c3) (b1) (i1) (b2) (i2) (b3) (i3) (b4) (i4) (Q:Int × Int × (List (Int × Int)) × Int->Prop) (hm:VC97 p_ am av aN bC Q) (h1:RS ao w0 X0 a1 am c1) (h2:OM kI tI false w0 X0 m2 r2 av) (h3:RS ay w0 X0 a3 aN.Rows c3) (fw:Cell w0 X0 b1 i1 42 [.slice a1 am.length c1]) (gF:Cell w0 X0 b2 i2 113 [.map (some r2)]) (lO:Cell w0 X0 b3 i3 48 [.int .i64 aN.ar,.int .i64 aN.aw,.int .i64 aN.aC,.slice a3 aN.Rows.length c3]) (tO:Cell w0 X0 b4 i4 3 [.int .i64 bC]) (hA:dW [i1,i2,i3,i4,m2]) :
  Ret Tryz.prog 97 #[.agg #[.int .i64 p_.Oper,.int .i64 p_.Result],.pointer (some ⟨b1,0,none⟩),.pointer (some ⟨b2,0,none⟩),.pointer (some ⟨b3,0,none⟩),.pointer (some ⟨b4,0,none⟩)] (pR [i1,i2,i3,i4,m2]) w0 X0 (fun w X' v=>∃ r,Q r/\v=.tuple #[.int .i64 r.1,.int .i64 r.2.1]/\Cell w X' b1 i1 42 [.slice a1 am.length c1]/\Cell w X' b2 i2 113 [.map (some r2)]/\OM kI tI false w X' m2 r2 r.2.2.1/\Cell w X' b3 i3 48 [.int .i64 aN.ar,.int .i64 aN.aw,.int .i64 aN.aC,.slice a3 aN.Rows.length c3]/\Cell w X' b4 i4 3 [.int .i64 r.2.2.2]):=by
 unfold VC97 at hm
 replace hm:=hm (h1.sm kr)
 replace hm:=hm (h3.sm kr)
 refine fM Tryz.func97 rfl (dH (zAa2 i1 i2 i3 i4 m2)) (fun id=>(bif Nat.beq id 901 then b1 else (bif Nat.beq id 902 then b2 else (bif Nat.beq id 903 then b3 else (bif Nat.beq id 904 then b4 else 0))))) (args:=[V (.agg #[.int .i64 p_.Oper,.int .i64 p_.Result]),Pt 901 0,Pt 902 0,Pt 903 0,Pt 904 0]) (bxs:=[(901,(42,[Sl a1 am c1])),(902,(113,[V (.map (some r2))])),(903,(48,(cO aN a3 c3))),(904,(3,[I bC]))]) kr rfl (bn.cons kr (fw.map (bM 0 hA.1 rfl)) (bn.cons kr (gF.map (bM 1 hA.1 rfl)) (bn.cons kr (lO.map (bM 2 hA.1 rfl)) (bn.cons kr (tO.map (bM 3 hA.1 rfl)) bn.nil)))) (fA (fun q hq=>(hA.2 q.1 (List.mem_map.2 ⟨q,hq,rfl⟩)).1)) ?_
 intro a hS hO hM
 have hP:Pin [(901,b1),(902,b2),(903,b3),(904,b4)] (fun id=>(bif Nat.beq id 901 then b1 else (bif Nat.beq id 902 then b2 else (bif Nat.beq id 903 then b3 else (bif Nat.beq id 904 then b4 else 0))))):=by intro q hq; simp at hq; rcases hq with rfl | rfl | rfl | rfl <;> rfl
 generalize (fun id=>(bif Nat.beq id 901 then b1 else (bif Nat.beq id 902 then b2 else (bif Nat.beq id 903 then b3 else (bif Nat.beq id 904 then b4 else 0)))))=Z at hS hP
 clear fw gF lO tO
 replace h1:=h1.m0 hM
 replace h2:=h2.map (f:=dH (zAa2 i1 i2 i3 i4 m2)) (bM 4 hA.1 rfl) hM
 replace h3:=h3.m0 hM
 refine rM T hS ⟨[(1,Pt 901 0),(2,Pt 902 0),(3,Pt 903 0),(4,Pt 904 0),(5,Pt 6 0)],[(6,(56,(cK p_))),(901,(42,[Sl a1 am c1])),(902,(113,[V (.map (some r2))])),(903,(48,(cO aN a3 c3))),(904,(3,[I bC]))]⟩ fun Z a uo ud hS hE hr=>?_
 replace hO:=hO.m2 hE
 replace h1:=h1.m1 hE
 replace h2:=h2.m2 hE
 replace h3:=h3.m1 hE
 replace hP:=hP.mv hr kr
 clear hE hr
 refine bc ?_
 refine aL ?_
 refine rPe T hS [] [(11,B ((decide (p_.Oper < 0)) || (decide (p_.Oper≥(lN am)))))] (sp:=[15]) fun a hS=>?_
 refine aG hS (b:=((decide (p_.Oper < 0)) || (decide (p_.Oper≥(lN am))))) kr (fun hb=>?_) fun hb=>?_
 ·replace hm:=hm.1 hb
  refine rP T hS ⟨[(6,I 0),(7,I 2)],[(901,(42,[Sl a1 am c1])),(902,(113,[V (.map (some r2))])),(903,(48,(cO aN a3 c3))),(904,(3,[I bC]))]⟩ fun a hS=>?_
  refine aY ?_
  exact gG T hS hO (fun c h=>bW kr h) (fun c h=>bX (l:=(zAa2 i1 i2 i3 i4 m2)) h) (bR (zAa2 i1 i2 i3 i4 m2)) rfl (r:=[.int .i64 0,.int .i64 2]) kr (fun X' hM hC=>⟨(0,2,av,bC),hm,rfl,((hS.cell (id:=901) (t:=42) (cs:=[Sl a1 am c1]) kr).out (f:=(bR (zAa2 i1 i2 i3 i4 m2))) hC kr kr (hP.at 0 rfl)),((hS.cell (id:=902) (t:=113) (cs:=[V (.map (some r2))]) kr).out (f:=(bR (zAa2 i1 i2 i3 i4 m2))) hC kr kr (hP.at 1 rfl)),(h2.out (f:=(bR (zAa2 i1 i2 i3 i4 m2))) hM hC kr kr),((hS.cell (id:=903) (t:=48) (cs:=(cO aN a3 c3)) kr).out (f:=(bR (zAa2 i1 i2 i3 i4 m2))) hC kr kr (hP.at 2 rfl)),((hS.cell (id:=904) (t:=3) (cs:=[I bC]) kr).out (f:=(bR (zAa2 i1 i2 i3 i4 m2))) hC kr kr (hP.at 3 rfl))⟩)
 replace hm:=hm.2 hb
 refine bj ?_
 refine oPe T hS 3 [11] [(23,V (.map (some r2))),(25,I p_.Oper)] fun a hS=>?_
 refine op1 (j6 kI tI false (zv:=.int .i64 0) (z:=0) p_.Oper hS kr kr kr kr Tryz.underlying113 Tryz.underlying3 kr rfl h2 ?_)
 intro v101 a hv hS
 replace hv:tI.R _ _ [v101] _:=hv
 cases hv
 refine ePe T hS [23,25,26] [(22,B (decide (((aF av p_.Oper).getD 0) > 0)))] fun a hS=>?_
 refine aG hS (b:=decide (((aF av p_.Oper).getD 0) > 0)) kr (fun hb=>?_) fun hb=>?_
 ·replace hm:=hm.1 hb
  refine rP T hS ⟨[(6,I 0),(7,I 21)],[(901,(42,[Sl a1 am c1])),(902,(113,[V (.map (some r2))])),(903,(48,(cO aN a3 c3))),(904,(3,[I bC]))]⟩ fun a hS=>?_
  refine aY ?_
  exact gG T hS hO (fun c h=>bW kr h) (fun c h=>bX (l:=(zAa2 i1 i2 i3 i4 m2)) h) (bR (zAa2 i1 i2 i3 i4 m2)) rfl (r:=[.int .i64 0,.int .i64 21]) kr (fun X' hM hC=>⟨(0,21,av,bC),hm,rfl,((hS.cell (id:=901) (t:=42) (cs:=[Sl a1 am c1]) kr).out (f:=(bR (zAa2 i1 i2 i3 i4 m2))) hC kr kr (hP.at 0 rfl)),((hS.cell (id:=902) (t:=113) (cs:=[V (.map (some r2))]) kr).out (f:=(bR (zAa2 i1 i2 i3 i4 m2))) hC kr kr (hP.at 1 rfl)),(h2.out (f:=(bR (zAa2 i1 i2 i3 i4 m2))) hM hC kr kr),((hS.cell (id:=903) (t:=48) (cs:=(cO aN a3 c3)) kr).out (f:=(bR (zAa2 i1 i2 i3 i4 m2))) hC kr kr (hP.at 2 rfl)),((hS.cell (id:=904) (t:=3) (cs:=[I bC]) kr).out (f:=(bR (zAa2 i1 i2 i3 i4 m2))) hC kr kr (hP.at 3 rfl))⟩)
 replace hm:=hm.2 hb
 refine aH ?_
 refine bj ?_
 refine oPe T hS 3 [2,22] [(28,V (.map (some r2))),(30,I p_.Oper)] fun a hS=>?_
 refine op1 (j6 kI tI false (zv:=.int .i64 0) (z:=0) p_.Oper hS kr kr kr kr Tryz.underlying113 Tryz.underlying3 kr rfl h2 ?_)
 intro v102 a hv hS
 replace hv:tI.R _ _ [v102] _:=hv
 cases hv
 refine oPe T hS 1 [31] [(32,I (wR (((aF av p_.Oper).getD 0)+1)))] fun a hS=>?_
 refine op1 (tD kI tI false (v:=I (wR (((aF av p_.Oper).getD 0)+1))) (u:=wR (((aF av p_.Oper).getD 0)+1)) p_.Oper hS kr kr kr kr Tryz.underlying113 Tryz.underlying3 kr h2 rfl ?_)
 intro a K4 hE h104 hS
 clear h2
 replace hO:=hO.m2 hE
 replace h1:=h1.m1 hE
 replace h3:=h3.m1 hE
 refine gX ?_
 refine bj ?_
 refine oPe T hS 3 [1] [(33,Sl a1 am c1),(35,I p_.Oper)] fun a hS=>?_
 obtain ⟨hq,hm⟩:=hm
 refine op1 (index (e:=102) (k:=.i64) T hS kr kr kr kr h1 kr kr hq.1 hq.2 ?_)
 intro xI a h106 hS
 refine op1 (eC T hS kr kr kr h106 kr kr ?_)
 intro v107 a hv hS
 subst hv
 refine eM T hS ⟨[(3,Pt 903 0),(4,Pt 904 0),(5,Pt 6 0),(8,Pt 9 0)],[(6,(56,(cK p_))),(9,(102,(cP (gi am p_.Oper)))),(901,(42,[Sl a1 am c1])),(902,(113,[V (.map (some r2))])),(903,(48,(cO aN a3 c3))),(904,(3,[I bC]))]⟩ fun Z a Ga Hr hS hE hr=>?_
 replace hO:=hO.m2 hE
 replace h1:=h1.m1 hE
 replace h3:=h3.m1 hE
 replace h104:=h104.m2 hE
 replace hP:=hP.mv hr kr
 clear hE hr
 refine bj ?_
 refine oPe T hS 6 [3] [(39,V (.agg #[.int .i64 aN.ar,.int .i64 aN.aw,.int .i64 aN.aC,.slice a3 aN.Rows.length c3])),(40,I bC),(42,I ((gi am p_.Oper).Kind)),(44,I p_.Result)] fun a hS=>?_
 refine op1 (call hS kr kr hb98 kr (fun _ _=>rfl) (Lj _ _ aN bC ((gi am p_.Oper).Kind) p_.Result a3 c3 h3) ?_)
 intro v108 a ry ug hE hp hS
 replace hO:=hO.m2 hE
 replace h1:=h1.m1 hE
 replace h3:=h3.m1 hE
 replace h104:=h104.m2 hE
 obtain ⟨dG,hr⟩:∃ r,ix aN bC ((gi am p_.Oper).Kind) p_.Result=r:=⟨_,rfl⟩
 replace hm:=hm dG hr
 rw [hr] at hp
 clear hr
 subst hp
 refine ePe T hS [39,40,42,44,45] [(9,I dG.1),(10,I dG.2)] fun a hS=>?_
 refine bT (fun a w=>∃ (Z:Nat->Nat) (X:Nat->Nat) (cv:Int),VC97_J1 p_ av bC Q dG cv/\St Tryz.f97.ntmps ⟨[(4,Pt 904 0),(9,I dG.1),(10,I cv)],[(901,(42,[Sl a1 am c1])),(902,(113,[V (.map (some r2))])),(903,(48,(cO aN a3 c3))),(904,(3,[I bC]))]⟩ Z a w X/\gf (dH (zAa2 i1 i2 i3 i4 m2)) w0 X0 w X/\Pin [(901,b1),(902,b2),(903,b3),(904,b4)] Z/\RS ao w X a1 am c1/\OM kI tI false w X 2002 r2 (dk av p_.Oper (wR (((aF av p_.Oper).getD 0)+1)))/\RS ay w X a3 aN.Rows c3) ?_ ?_
 ·refine rP T hS ⟨[(4,Pt 904 0),(9,I dG.1),(10,I dG.2),(61,B (((dG.2 == 0) && (((gi am p_.Oper).End) != (-1))) && (((gi am p_.Oper).Result) != p_.Result)))],[(901,(42,[Sl a1 am c1])),(902,(113,[V (.map (some r2))])),(903,(48,(cO aN a3 c3))),(904,(3,[I bC]))]⟩ (sp:=[50,55]) fun a hS=>?_
  refine aG hS (b:=(((dG.2 == 0) && (((gi am p_.Oper).End) != (-1))) && (((gi am p_.Oper).Result) != p_.Result))) kr (fun hb=>?_) fun hb=>?_
  ·replace hm:=hm.1 hb
   refine region (ePe T hS [61] [(10,I 40)] fun a hS=>?_)
   exact ⟨Z,_,40,hm,hS.sl _,hO,hP,h1,h104,h3⟩
  replace hm:=hm.2 hb
  refine aH ?_
  exact ⟨Z,_,dG.2,hm,hS.sl _,hO,hP,h1,h104,h3⟩
 rintro a uq ⟨Z,Dh,cv,hm,hS,hO,hP,h113,h114,h115⟩
 unfold VC97_J1 at hm
 refine bc ?_
 refine rPe T hS [] [(63,B (cv != 0))] fun a hS=>?_
 refine aG hS (b:=(cv != 0)) kr (fun hb=>?_) fun hb=>?_
 ·replace hm:=hm.1 hb
  refine rPe T hS [4,9,10,63] [(6,I 0),(7,I cv)] fun a hS=>?_
  refine aY ?_
  exact gG T hS hO (fun c h=>bW kr h) (fun c h=>bX (l:=(zAa2 i1 i2 i3 i4 m2)) h) (bR (zAa2 i1 i2 i3 i4 m2)) rfl (r:=[.int .i64 0,.int .i64 cv]) kr (fun X' hM hC=>⟨(0,cv,dk av p_.Oper (wR (((aF av p_.Oper).getD 0)+1)),bC),hm,rfl,((hS.cell (id:=901) (t:=42) (cs:=[Sl a1 am c1]) kr).out (f:=(bR (zAa2 i1 i2 i3 i4 m2))) hC kr kr (hP.at 0 rfl)),((hS.cell (id:=902) (t:=113) (cs:=[V (.map (some r2))]) kr).out (f:=(bR (zAa2 i1 i2 i3 i4 m2))) hC kr kr (hP.at 1 rfl)),(h114.out (f:=(bR (zAa2 i1 i2 i3 i4 m2))) hM hC kr kr),((hS.cell (id:=903) (t:=48) (cs:=(cO aN a3 c3)) kr).out (f:=(bR (zAa2 i1 i2 i3 i4 m2))) hC kr kr (hP.at 2 rfl)),((hS.cell (id:=904) (t:=3) (cs:=[I bC]) kr).out (f:=(bR (zAa2 i1 i2 i3 i4 m2))) hC kr kr (hP.at 3 rfl))⟩)
 replace hm:=hm.2 hb
 refine aH ?_
 refine rM T hS ⟨[(9,I dG.1)],[(901,(42,[Sl a1 am c1])),(902,(113,[V (.map (some r2))])),(903,(48,(cO aN a3 c3))),(904,(3,[I dG.1]))]⟩ fun Z a wt AM hS hE hr=>?_
 replace hO:=hO.m2 hE
 replace h113:=h113.m1 hE
 replace h114:=h114.m2 hE
 replace h115:=h115.m1 hE
 replace hP:=hP.mv hr kr
 clear hE hr
 refine rPe T hS [9] [(6,I dG.1),(7,I 0)] fun a hS=>?_
 refine aY ?_
 exact gG T hS hO (fun c h=>bW kr h) (fun c h=>bX (l:=(zAa2 i1 i2 i3 i4 m2)) h) (bR (zAa2 i1 i2 i3 i4 m2)) rfl (r:=[.int .i64 dG.1,.int .i64 0]) kr (fun X' hM hC=>⟨(dG.1,0,dk av p_.Oper (wR (((aF av p_.Oper).getD 0)+1)),dG.1),hm,rfl,((hS.cell (id:=901) (t:=42) (cs:=[Sl a1 am c1]) kr).out (f:=(bR (zAa2 i1 i2 i3 i4 m2))) hC kr kr (hP.at 0 rfl)),((hS.cell (id:=902) (t:=113) (cs:=[V (.map (some r2))]) kr).out (f:=(bR (zAa2 i1 i2 i3 i4 m2))) hC kr kr (hP.at 1 rfl)),(h114.out (f:=(bR (zAa2 i1 i2 i3 i4 m2))) hM hC kr kr),((hS.cell (id:=903) (t:=48) (cs:=(cO aN a3 c3)) kr).out (f:=(bR (zAa2 i1 i2 i3 i4 m2))) hC kr kr (hP.at 2 rfl)),((hS.cell (id:=904) (t:=3) (cs:=[I dG.1]) kr).out (f:=(bR (zAa2 i1 i2 i3 i4 m2))) hC kr kr (hP.at 3 rfl))⟩)
theorem C97 (Lj:S98) (v:∀ (p_:aa) (am:List ab) (av:List (Int × Int)) (aN:ae) (bC:Int),VC97 p_ am av aN bC (fun r=>r=db p_ am av aN bC)):S97:=by
 intro w X p_ am av aN bC a1 c1 r2 m2 a3 c3  b1 i1 b2 i2 b3 i3 b4 i4 h1 h2 h3 fw gF lO tO hA
 refine (W97 Lj w X p_ am av aN bC a1 c1 r2 m2 a3 c3  b1 i1 b2 i2 b3 i3 b4 i4 _ (v p_ am av aN bC) h1 h2 h3 fw gF lO tO hA).mono ?_
 rintro _ _ _ _ ⟨r,rfl,h⟩
 exact h
theorem W62 (Lu:S85) (Lt:S86) (Lk:S97) (w0) (X0) (o_:ae) (l_:List ab) (state:Int) (ac:List aa) (a1) (c1) (a2) (c2) (a3) (c3) (Q:Int × Int × Int->Prop) (hm:VC62 o_ l_ state ac Q) (h1:RS ay w0 X0 a1 o_.Rows c1) (h2:RS ao w0 X0 a2 l_ c2) (h3:RS aq w0 X0 a3 ac c3) :
  Ret Tryz.prog 62 #[.agg #[.int .i64 o_.ar,.int .i64 o_.aw,.int .i64 o_.aC,.slice a1 o_.Rows.length c1],.slice a2 l_.length c2,.int .i64 state,.slice a3 ac.length c3] aJ w0 X0 (fun w X' v=>∃ r,Q r/\v=.tuple #[.int .i64 r.1,.int .i64 r.2.1,.int .i64 r.2.2]):=by
 unfold VC62 at hm
 replace hm:=hm (h1.sm kr)
 replace hm:=hm (h2.sm kr)
 replace hm:=hm (h3.sm kr)
 refine enter Tryz.func62 rfl (vals:=[.agg #[.int .i64 o_.ar,.int .i64 o_.aw,.int .i64 o_.aC,.slice a1 o_.Rows.length c1],.slice a2 l_.length c2,.int .i64 state,.slice a3 ac.length c3]) kr ?_
 intro Z a hS hO hM
 replace h1:=h1.m0 hM
 replace h2:=h2.m0 hM
 replace h3:=h3.m0 hM
 refine rM T hS ⟨[(1,Sl a2 l_ c2),(2,I state),(3,Sl a3 ac c3),(4,Pt 5 0)],[(5,(48,(cO o_ a1 c1)))]⟩ fun Z a rr t9 hS hE hr=>?_
 replace hO:=hO.m2 hE
 replace h1:=h1.m1 hE
 replace h2:=h2.m1 hE
 replace h3:=h3.m1 hE
 clear hE hr
 refine bc ?_
 refine bj ?_
 refine oPe T hS 2 [] [(17,V (.agg #[.int .i64 o_.ar,.int .i64 o_.aw,.int .i64 o_.aC,.slice a1 o_.Rows.length c1])),(18,I state)] fun a hS=>?_
 obtain ⟨hq,hm⟩:=hm
 refine op1 (call hS kr kr hb85 kr (fun _ _=>rfl) (Lu _ _ o_ state a1 c1 hq h1) ?_)
 intro v101 a eZ fa hE hp hS
 replace hO:=hO.m2 hE
 replace h1:=h1.m1 hE
 replace h2:=h2.m1 hE
 replace h3:=h3.m1 hE
 obtain ⟨ap,hr⟩:∃ r,eK o_ state=r:=⟨_,rfl⟩
 replace hm:=hm ap hr
 rw [hr] at hp
 clear hr
 subst hp
 refine ePe T hS [17,18,19] [(11,I ap)] fun a hS=>?_
 refine rPe T hS [] [(21,B (ap != 0))] fun a hS=>?_
 refine aG hS (b:=(ap != 0)) kr (fun hb=>?_) fun hb=>?_
 ·replace hm:=hm.1 hb
  refine rP T hS ⟨[(8,I 0),(9,I (-1)),(10,I ap)],[]⟩ fun a hS=>?_
  refine aY ?_
  exact fin T hS hO (fun c=>c) rfl (r:=[.int .i64 0,.int .i64 (-1),.int .i64 ap]) kr (fun X' hM hC=>⟨(0,(-1),ap),hm,rfl⟩)
 replace hm:=hm.2 hb
 refine aH ?_
 refine bj ?_
 refine oP T hS 3 ⟨[(2,I state),(3,Sl a3 ac c3),(23,V (.agg #[.int .i64 o_.ar,.int .i64 o_.aw,.int .i64 o_.aC,.slice a1 o_.Rows.length c1])),(24,Sl a2 l_ c2),(25,I state)],[]⟩ fun a hS=>?_
 refine op1 (call hS kr kr hb86 kr (fun _ _=>rfl) (Lt _ _ o_ l_ state a1 c1 a2 c2 2113 701 702 703 704 h1 h2) ?_)
 intro v105 a mg mc hE hp hS
 replace hO:=hO.m2 hE
 replace h1:=h1.m1 hE
 replace h2:=h2.m1 hE
 replace h3:=h3.m1 hE
 obtain ⟨ci,ce,fS,je,i9,b117,b118,b119,b120,hp,h111,h116,sw,vf,h112,qQ,Cq⟩:=hp
 obtain ⟨aV,hr⟩:∃ r,ep o_ l_ state=r:=⟨_,rfl⟩
 replace hm:=hm aV hr
 rw [hr] at h111 h116 sw qQ Cq h112
 clear hr
 subst hp
 replace hm:=hm (h111.sm kr)
 replace hm:=hm (h116.sm kr)
 replace hS:=hS.oK (id:=701) (t:=42) (cs:=[Sl ci aV.1 ce]) kr kr sw rfl
 replace hS:=hS.oK (id:=702) (t:=113) (cs:=[V (.map (some fS))]) kr kr vf rfl
 replace hS:=hS.oK (id:=703) (t:=48) (cs:=(cO aV.2.2.1 je i9)) kr kr qQ rfl
 replace hS:=hS.oK (id:=704) (t:=3) (cs:=[I aV.2.2.2]) kr kr Cq rfl
 replace hS:=hS.CF (t:=26) (x:=V (.func (.func 97) #[] #[.pointer (some ⟨b117,0,none⟩),.pointer (some ⟨b118,0,none⟩),.pointer (some ⟨b119,0,none⟩),.pointer (some ⟨b120,0,none⟩)])) (y:=.f (.func 97) [] [.p 701 0,.p 702 0,.p 703 0,.p 704 0]) kr rfl
 generalize (upd (upd (upd (upd Z 701 b117) 702 b118) 703 b119) 704 b120)=Z at hS
 clear sw vf qQ Cq
 refine ePe T hS [23,24,25,26] [(12,.f (.func 97) [] [.p 701 0,.p 702 0,.p 703 0,.p 704 0])] fun a hS=>?_
 refine rPe T hS [2] [(8,I state)] fun a hS=>?_
 refine bT (fun a w=>∃ (Z:Nat->Nat) (X:Nat->Nat) (k4:Int),VC62_J1 ac Q k4/\St Tryz.f62.ntmps ⟨[(3,Sl a3 ac c3),(8,I k4)],[]⟩ Z a w X/\Old w0 X0 w X/\RS aq w X a3 ac c3) ?_ ?_
 ·refine rPe T hS [] [(28,Sl a3 ac c3),(29,I (lN ac)),(30,I 0)] fun a hS=>?_
  refine aL ?_
  obtain ⟨I1,μ1,co,hm⟩:=hm
  refine cl (σ:=Int × Int × (List (Int × Int)) × Int) (fun s a w=>∃ Z X,I1 s.1 s.2.1 s.2.2.1 s.2.2.2/\St Tryz.f62.ntmps ⟨[(3,Sl a3 ac c3),(8,I s.1),(12,.f (.func 97) [] [.p 701 0,.p 702 0,.p 703 0,.p 704 0]),(28,Sl a3 ac c3),(29,I (lN ac)),(30,I s.2.1)],[(701,(42,[Sl ci aV.1 ce])),(702,(113,[V (.map (some fS))])),(703,(48,(cO aV.2.2.1 je i9))),(704,(3,[I s.2.2.2]))]⟩ Z a w X/\Old w0 X0 w X/\RS aq w X a3 ac c3/\RS aq w X a3 ac c3/\RS ao w X ci aV.1 ce/\OM kI tI false w X 2113 fS s.2.2.1/\RS ay w X je aV.2.2.1.Rows i9) (fun s=>μ1 s.1 s.2.1 s.2.2.1 s.2.2.2) (⟨state,0,aV.2.1,aV.2.2.2⟩) ?_ ?_
  ·exact ⟨Z,_,co,hS.sl _,hO,h3,h3,h111,h112,h116⟩
  rintro ⟨fX,ia,ge,f8⟩ a F8 ⟨Z,EV,hI,hS,hO,h127,h129,h131,h133,h134⟩
  replace hm:=hm fX ia ge f8 hI
  clear hI co
  refine rPe T hS [] [(31,B (decide (ia < (lN ac))))] fun a hS=>?_
  refine bc ?_
  refine aG hS (b:=decide (ia < (lN ac))) kr (fun hb=>?_) fun hb=>?_
  ·replace hm:=hm.1 hb
   refine aH (bc ?_)
   refine aL ?_
   refine bj ?_
   refine oPe T hS 1 [8,31] [(32,I ia)] fun a hS=>?_
   obtain ⟨hq,hm⟩:=hm
   refine op1 (index (e:=56) (k:=.i64) T hS kr kr kr kr h129 kr kr hq.1 hq.2 ?_)
   intro Hv a h137 hS
   refine op1 (eC T hS kr kr kr h137 kr kr ?_)
   intro v138 a hv hS
   subst hv
   refine eM T hS ⟨[(3,Sl a3 ac c3),(12,.f (.func 97) [] [.p 701 0,.p 702 0,.p 703 0,.p 704 0]),(13,I ia),(14,Pt 15 0),(28,Sl a3 ac c3),(29,I (lN ac)),(30,I ia)],[(15,(56,(cK (gi ac ia)))),(701,(42,[Sl ci aV.1 ce])),(702,(113,[V (.map (some fS))])),(703,(48,(cO aV.2.2.1 je i9))),(704,(3,[I f8]))]⟩ fun Z a zk xC hS hE hr=>?_
   replace hO:=hO.m2 hE
   replace h127:=h127.m1 hE
   replace h129:=h129.m1 hE
   replace h131:=h131.m1 hE
   replace h133:=h133.m2 hE
   replace h134:=h134.m1 hE
   clear hE hr
   refine bj ?_
   refine oP T hS 2 ⟨[(3,Sl a3 ac c3),(12,.f (.func 97) [] [.p 701 0,.p 702 0,.p 703 0,.p 704 0]),(13,I ia),(28,Sl a3 ac c3),(29,I (lN ac)),(30,I ia),(36,.f (.func 97) [] [.p 701 0,.p 702 0,.p 703 0,.p 704 0]),(37,V (.agg #[.int .i64 ((gi ac ia).Oper),.int .i64 ((gi ac ia).Result)]))],[(701,(42,[Sl ci aV.1 ce])),(702,(113,[V (.map (some fS))])),(703,(48,(cO aV.2.2.1 je i9))),(704,(3,[I f8]))]⟩ fun a hS=>?_
   refine op1 (kd (fi:=[]) (cp:=[.p 701 0,.p 702 0,.p 703 0,.p 704 0]) hS kr kr hb97 kr kr (Lk _ _ (gi ac ia) aV.1 ge aV.2.2.1 f8 ci ce fS 2113 je i9 (Z 701) 701 (Z 702) 702 (Z 703) 703 (Z 704) 704 h131 h133 h134 (hS.cell (id:=701) (t:=42) (cs:=[Sl ci aV.1 ce]) kr) (hS.cell (id:=702) (t:=113) (cs:=[V (.map (some fS))]) kr) (hS.cell (id:=703) (t:=48) (cs:=(cO aV.2.2.1 je i9)) kr) (hS.cell (id:=704) (t:=3) (cs:=[I f8]) kr) ⟨by decide,by decide⟩) ?_)
   intro v139 a ul ub hE hp hS
   clear h133
   replace hO:=hO.m2 hE
   replace h127:=h127.m1 hE
   replace h129:=h129.m1 hE
   replace h131:=h131.m1 hE
   replace h134:=h134.m1 hE
   obtain ⟨hp,Fw,Fv,h143,vc,su⟩:=hp
   obtain ⟨bV,hr⟩:∃ r,db (gi ac ia) aV.1 ge aV.2.2.1 f8=r:=⟨_,rfl⟩
   replace hm:=hm bV hr
   rw [hr] at hp su h143
   clear hr
   subst hp
   replace hS:=hS.cD (id:=701) (t:=42) (cs:=[Sl ci aV.1 ce]) kr Fw
   replace hS:=hS.cD (id:=702) (t:=113) (cs:=[V (.map (some fS))]) kr Fv
   replace hS:=hS.cD (id:=703) (t:=48) (cs:=(cO aV.2.2.1 je i9)) kr vc
   replace hS:=hS.cD (id:=704) (t:=3) (cs:=[I bV.2.2.2]) kr su
   clear Fw Fv vc su
   refine ePe T hS [36,37,38] [(15,I bV.1),(16,I bV.2.1)] fun a hS=>?_
   refine bc ?_
   refine rPe T hS [] [(42,B (bV.2.1 != 0))] fun a hS=>?_
   refine aG hS (b:=(bV.2.1 != 0)) kr (fun hb=>?_) fun hb=>?_
   ·replace hm:=hm.1 hb
    refine rP T hS ⟨[(8,I 0),(9,I ia),(10,I bV.2.1)],[]⟩ fun a hS=>?_
    refine aY ?_
    exact fin T hS hO (fun c=>c) rfl (r:=[.int .i64 0,.int .i64 ia,.int .i64 bV.2.1]) kr (fun X' hM hC=>⟨(0,ia,bV.2.1),hm,rfl⟩)
   replace hm:=hm.2 hb
   refine aH ?_
   refine region (ePe T hS [13,15,16,42] [(8,I bV.1)] fun a hS=>?_)
   refine region (ePe T hS [] [(30,I (wR (ia+1)))] fun a hS=>?_)
   exact ⟨⟨bV.1,wR (ia+1),bV.2.2.1,bV.2.2.2⟩,⟨Z,_,hm.1,hS.sl _,hO,h127,h129,h131,h143,h134⟩,hm.2⟩
  replace hm:=hm.2 hb
  refine cb (by rfl) ?_
  exact ⟨Z,_,fX,hm,hS.sl _,hO,h127⟩
 rintro a zj ⟨Z,wa,k4,hm,hS,hO,h125⟩
 unfold VC62_J1 at hm
 refine rPe T hS [3] [(9,I (lN ac)),(10,I 0)] fun a hS=>?_
 refine aY ?_
 exact fin T hS hO (fun c=>c) rfl (r:=[.int .i64 k4,.int .i64 (lN ac),.int .i64 0]) kr (fun X' hM hC=>⟨(k4,(lN ac),0),hm,rfl⟩)
theorem C62 (Lu:S85) (Lt:S86) (Lk:S97) (v:∀ (o_:ae) (l_:List ab) (state:Int) (ac:List aa),yb o_ l_ state ac->VC62 o_ l_ state ac (fun r=>r=jc o_ l_ state ac)):S62:=by
 intro w X o_ l_ state ac a1 c1 a2 c2 a3 c3   hp h1 h2 h3
 refine (W62 Lu Lt Lk w X o_ l_ state ac a1 c1 a2 c2 a3 c3   _ (v o_ l_ state ac hp) h1 h2 h3).mono ?_
 rintro _ _ _ _ ⟨r,rfl,h⟩
 exact h
theorem W33 (LG:S62) (w0) (X0) (o_:ae) (l_:List ab) (ac:List aa) (a1) (c1) (a2) (c2) (a3) (c3) (Q:Int × Int × Int->Prop) (hm:VC33 o_ l_ ac Q) (h1:RS ay w0 X0 a1 o_.Rows c1) (h2:RS ao w0 X0 a2 l_ c2) (h3:RS aq w0 X0 a3 ac c3) :
  Ret Tryz.prog 33 #[.agg #[.int .i64 o_.ar,.int .i64 o_.aw,.int .i64 o_.aC,.slice a1 o_.Rows.length c1],.slice a2 l_.length c2,.slice a3 ac.length c3] aJ w0 X0 (fun w X' v=>∃ r,Q r/\v=.tuple #[.int .i64 r.1,.int .i64 r.2.1,.int .i64 r.2.2]):=by
 unfold VC33 at hm
 replace hm:=hm (h1.sm kr)
 replace hm:=hm (h2.sm kr)
 replace hm:=hm (h3.sm kr)
 refine enter Tryz.func33 rfl (vals:=[.agg #[.int .i64 o_.ar,.int .i64 o_.aw,.int .i64 o_.aC,.slice a1 o_.Rows.length c1],.slice a2 l_.length c2,.slice a3 ac.length c3]) kr ?_
 intro Z a hS hO hM
 replace h1:=h1.m0 hM
 replace h2:=h2.m0 hM
 replace h3:=h3.m0 hM
 refine rM T hS ⟨[(1,Sl a2 l_ c2),(2,Sl a3 ac c3),(3,Pt 4 0)],[(4,(48,(cO o_ a1 c1)))]⟩ fun Z a nG ms hS hE hr=>?_
 replace hO:=hO.m2 hE
 replace h1:=h1.m1 hE
 replace h2:=h2.m1 hE
 replace h3:=h3.m1 hE
 clear hE hr
 refine bj ?_
 refine oP T hS 5 ⟨[(9,V (.agg #[.int .i64 o_.ar,.int .i64 o_.aw,.int .i64 o_.aC,.slice a1 o_.Rows.length c1])),(10,Sl a2 l_ c2),(12,I o_.aC),(13,Sl a3 ac c3)],[]⟩ fun a hS=>?_
 obtain ⟨hq,hm⟩:=hm
 refine op1 (call hS kr kr hb62 kr (fun _ _=>rfl) (LG _ _ o_ l_ o_.aC ac a1 c1 a2 c2 a3 c3 hq h1 h2 h3) ?_)
 intro v101 a eZ fa hE hp hS
 replace hO:=hO.m2 hE
 replace h1:=h1.m1 hE
 replace h2:=h2.m1 hE
 replace h3:=h3.m1 hE
 obtain ⟨ap,hr⟩:∃ r,jc o_ l_ o_.aC ac=r:=⟨_,rfl⟩
 replace hm:=hm ap hr
 rw [hr] at hp
 clear hr
 subst hp
 refine ePe T hS [9,10,12,13,14] [(6,I ap.1),(7,I ap.2.1),(8,I ap.2.2)] fun a hS=>?_
 refine aY ?_
 exact fin T hS hO (fun c=>c) rfl (r:=[.int .i64 ap.1,.int .i64 ap.2.1,.int .i64 ap.2.2]) kr (fun X' hM hC=>⟨(ap.1,ap.2.1,ap.2.2),hm,rfl⟩)
theorem C33 (LG:S62) (v:∀ (o_:ae) (l_:List ab) (ac:List aa),lk o_ l_ ac->VC33 o_ l_ ac (fun r=>r=cg o_ l_ ac)):S33:=by
 intro w X o_ l_ ac a1 c1 a2 c2 a3 c3   hp h1 h2 h3
 refine (W33 LG w X o_ l_ ac a1 c1 a2 c2 a3 c3   _ (v o_ l_ ac hp) h1 h2 h3).mono ?_
 rintro _ _ _ _ ⟨r,rfl,h⟩
 exact h
theorem W87 (w0) (X0) (ac:List aa) (a1) (c1) (cG) (dS) (Q:(List (Int × Int))->Prop) (hm:VC87 ac Q) (h1:RS aq w0 X0 a1 ac c1) :
  Ret Tryz.prog 87 #[.slice a1 ac.length c1] aJ w0 X0 (fun w X' v=>∃ r,Q r/\∃ Ii ut,v=.func (.func 99) #[] #[.pointer (some ⟨ut,0,none⟩)]/\Cell w X' ut dS 113 [.map (some Ii)]/\OM kI tI false w X' cG Ii r):=by
 unfold VC87 at hm
 replace hm:=hm (h1.sm kr)
 refine enter Tryz.func87 rfl (vals:=[.slice a1 ac.length c1]) kr ?_
 intro Z a hS hO hM
 replace h1:=h1.m0 hM
 refine rPe T hS [] [] fun a hS=>?_
 refine bj ?_
 refine op1 (pc kI tI false 1007 hS kr kr ?_)
 intro d4 a eZ fa hE h104 hS
 replace hO:=hO.m2 hE
 replace h1:=h1.m1 hE
 refine eM T hS ⟨[(0,Sl a1 ac c1),(3,Pt 4 0)],[(4,(113,[V (.map (some d4))]))]⟩ fun Z a DJ wb hS hE hr=>?_
 replace hO:=hO.m2 hE
 replace h1:=h1.m1 hE
 replace h104:=h104.m2 hE
 clear hE hr
 refine bT (fun a w=>∃ (Z:Nat->Nat) (X:Nat->Nat) (eY:List (Int × Int)),VC87_J1 Q eY/\St Tryz.f87.ntmps ⟨[(3,Pt 4 0)],[(4,(113,[V (.map (some d4))]))]⟩ Z a w X/\Old w0 X0 w X/\OM kI tI false w X 1007 d4 eY) ?_ ?_
 ·refine rPe T hS [0] [(7,Sl a1 ac c1),(8,I (lN ac)),(9,I 0)] fun a hS=>?_
  refine aL ?_
  obtain ⟨I1,μ1,co,hm⟩:=hm
  refine cl (σ:=Int × (List (Int × Int))) (fun s a w=>∃ Z X,I1 s.1 s.2/\St Tryz.f87.ntmps ⟨[(3,Pt 4 0),(7,Sl a1 ac c1),(8,I (lN ac)),(9,I s.1)],[(4,(113,[V (.map (some d4))]))]⟩ Z a w X/\Old w0 X0 w X/\RS aq w X a1 ac c1/\OM kI tI false w X 1007 d4 s.2) (fun s=>μ1 s.1 s.2) (⟨0,([]:List (Int × Int))⟩) ?_ ?_
  ·exact ⟨Z,_,co,hS.sl _,hO,h1,h104⟩
  rintro ⟨di,cH⟩ a Ga ⟨Z,Dg,hI,hS,hO,h107,h110⟩
  replace hm:=hm di cH hI
  clear hI co
  refine rPe T hS [] [(10,B (decide (di < (lN ac))))] fun a hS=>?_
  refine bc ?_
  refine aG hS (b:=decide (di < (lN ac))) kr (fun hb=>?_) fun hb=>?_
  ·replace hm:=hm.1 hb
   refine aH (bc ?_)
   refine aL ?_
   refine bj ?_
   obtain ⟨hq,hm⟩:=hm
   refine op1 (index (e:=56) (k:=.i64) T hS kr kr kr kr h107 kr kr hq.1 hq.2 ?_)
   intro Dk a h112 hS
   refine op1 (eC T hS kr kr kr h112 kr kr ?_)
   intro v113 a hv hS
   subst hv
   refine eM T hS ⟨[(3,Pt 4 0),(5,Pt 6 0),(7,Sl a1 ac c1),(8,I (lN ac)),(9,I di)],[(4,(113,[V (.map (some d4))])),(6,(56,(cK (gi ac di))))]⟩ fun Z a zq Dh hS hE hr=>?_
   replace hO:=hO.m2 hE
   replace h107:=h107.m1 hE
   replace h110:=h110.m2 hE
   clear hE hr
   refine region ?_
   refine oP T hS 3 ⟨[(3,Pt 4 0),(7,Sl a1 ac c1),(8,I (lN ac)),(9,I di),(13,V (.map (some d4))),(15,I ((gi ac di).Oper))],[(4,(113,[V (.map (some d4))]))]⟩ fun a hS=>?_
   refine op1 (j6 kI tI false (zv:=.int .i64 0) (z:=0) ((gi ac di).Oper) hS kr kr kr kr Tryz.underlying113 Tryz.underlying3 kr rfl h110 ?_)
   intro v114 a hv hS
   replace hv:tI.R _ _ [v114] _:=hv
   cases hv
   refine oPe T hS 1 [16] [(17,I (wR (((aF cH ((gi ac di).Oper)).getD 0)+1)))] fun a hS=>?_
   refine op1 (tD kI tI false (v:=I (wR (((aF cH ((gi ac di).Oper)).getD 0)+1))) (u:=wR (((aF cH ((gi ac di).Oper)).getD 0)+1)) ((gi ac di).Oper) hS kr kr kr kr Tryz.underlying113 Tryz.underlying3 kr h110 rfl ?_)
   intro a pt hE h116 hS
   clear h110
   replace hO:=hO.m2 hE
   replace h107:=h107.m1 hE
   refine gX ?_
   refine region (ePe T hS [] [(9,I (wR (di+1)))] fun a hS=>?_)
   exact ⟨⟨wR (di+1),dk cH ((gi ac di).Oper) (wR (((aF cH ((gi ac di).Oper)).getD 0)+1))⟩,⟨Z,_,hm.1,hS.sl _,hO,h107,h116⟩,hm.2⟩
  replace hm:=hm.2 hb
  refine cb (by rfl) ?_
  exact ⟨Z,_,cH,hm,hS.sl _,hO,h110⟩
 rintro a uo ⟨Z,Hr,eY,hm,hS,hO,h106⟩
 unfold VC87_J1 at hm
 refine rPe T hS [3] [(2,.f (.func 99) [] [.p 4 0])] fun a hS=>?_
 refine aY ?_
 exact fin T hS hO (zAa1 dS cG) rfl (r:=[.func (.func 99) #[] #[.pointer (some ⟨Z 4,0,none⟩)]]) kr (fun X' hM hC=>⟨eY,hm,d4,(Z 4),rfl,((hS.cell (id:=4) (t:=113) (cs:=[V (.map (some d4))]) kr).out (f:=(zAa1 dS cG)) hC kr kr rfl),(h106.out (f:=(zAa1 dS cG)) hM hC kr kr)⟩)
theorem C87 (v:∀ (ac:List aa),VC87 ac (fun r=>r=fk ac)):S87:=by
 intro w X ac a1 c1 cG dS  h1
 refine (W87 w X ac a1 c1 cG dS  _ (v ac) h1).mono ?_
 rintro _ _ _ _ ⟨r,rfl,h⟩
 exact h
theorem W99 (w0) (X0) (i_:Int) (am:List (Int × Int)) (r1) (m1) (b1) (i1) (Q:Bool->Prop) (hm:VC99 i_ am Q) (h1:OM kI tI false w0 X0 m1 r1 am) (fw:Cell w0 X0 b1 i1 113 [.map (some r1)]) (hA:dW [i1,m1]) :
  Ret Tryz.prog 99 #[.int .i64 i_,.pointer (some ⟨b1,0,none⟩)] (pR [i1,m1]) w0 X0 (fun w X' v=>∃ r,Q r/\v=.bool r/\Cell w X' b1 i1 113 [.map (some r1)]/\OM kI tI false w X' m1 r1 am):=by
 unfold VC99 at hm
 refine fM Tryz.func99 rfl (dH [(i1,901),(m1,2001)]) (fun id=>(bif Nat.beq id 901 then b1 else 0)) (args:=[I i_,Pt 901 0]) (bxs:=[(901,(113,[V (.map (some r1))]))]) kr rfl (bn.cons kr (fw.map (bM 0 hA.1 rfl)) bn.nil) (fA (fun q hq=>(hA.2 q.1 (List.mem_map.2 ⟨q,hq,rfl⟩)).1)) ?_
 intro a hS hO hM
 have hP:Pin [(901,b1)] (fun id=>(bif Nat.beq id 901 then b1 else 0)):=by intro q hq; simp at hq; rcases hq with rfl <;> rfl
 generalize (fun id=>(bif Nat.beq id 901 then b1 else 0))=Z at hS hP
 clear fw
 replace h1:=h1.map (f:=dH [(i1,901),(m1,2001)]) (bM 1 hA.1 rfl) hM
 refine rPe T hS [] [] fun a hS=>?_
 refine bj ?_
 refine oPe T hS 2 [0,1] [(4,V (.map (some r1))),(5,I i_)] fun a hS=>?_
 refine op1 (j6 kI tI false (zv:=.int .i64 0) (z:=0) i_ hS kr kr kr kr Tryz.underlying113 Tryz.underlying3 kr rfl h1 ?_)
 intro v101 a hv hS
 replace hv:tI.R _ _ [v101] _:=hv
 cases hv
 refine ePe T hS [4,5,6] [(3,B (((aF am i_).getD 0) == 0))] fun a hS=>?_
 refine aY ?_
 exact gG T hS hO (fun c h=>bW kr h) (fun c h=>bX (l:=[(i1,901),(m1,2001)]) h) (bR [(i1,901),(m1,2001)]) rfl (r:=[.bool (((aF am i_).getD 0) == 0)]) kr (fun X' hM hC=>⟨(((aF am i_).getD 0) == 0),hm,rfl,((hS.cell (id:=901) (t:=113) (cs:=[V (.map (some r1))]) kr).out (f:=(bR [(i1,901),(m1,2001)])) hC kr kr (hP.at 0 rfl)),(h1.out (f:=(bR [(i1,901),(m1,2001)])) hM hC kr kr)⟩)
theorem C99 (v:∀ (i_:Int) (am:List (Int × Int)),VC99 i_ am (fun r=>r=fg i_ am)):S99:=by
 intro w X i_ am r1 m1  b1 i1 h1 fw hA
 refine (W99 w X i_ am r1 m1  b1 i1 _ (v i_ am) h1 fw hA).mono ?_
 rintro _ _ _ _ ⟨r,rfl,h⟩
 exact h
theorem W64 (Ls:S87) (Li:S99) (w0) (X0) (l_:List ab) (ac:List aa) (pending:Bool) (a1) (c1) (a2) (c2) (Q:(List Int)->Prop) (hm:VC64 l_ ac pending Q) (h1:RS ao w0 X0 a1 l_ c1) (h2:RS aq w0 X0 a2 ac c2) :
  Ret Tryz.prog 64 #[.slice a1 l_.length c1,.slice a2 ac.length c2,.bool pending] aJ w0 X0 (fun w X' v=>∃ r,Q r/\∃ cn cm,v=.slice cn r.length cm/\RS tI w X' cn r cm):=by
 unfold VC64 at hm
 replace hm:=hm (h1.sm kr)
 replace hm:=hm (h2.sm kr)
 refine enter Tryz.func64 rfl (vals:=[.slice a1 l_.length c1,.slice a2 ac.length c2,.bool pending]) kr ?_
 intro Z a hS hO hM
 replace h1:=h1.m0 hM
 replace h2:=h2.m0 hM
 refine rPe T hS [] [] fun a hS=>?_
 refine bj ?_
 refine oPe T hS 1 [1] [(11,Sl a2 ac c2)] fun a hS=>?_
 refine op1 (call hS kr kr hb87 kr (fun _ _=>rfl) (Ls _ _ ac a2 c2 2106 701 h2) ?_)
 intro v101 a eZ fa hE hp hS
 replace hO:=hO.m2 hE
 replace h1:=h1.m1 hE
 replace h2:=h2.m1 hE
 obtain ⟨f9,b107,hp,FI,h105⟩:=hp
 obtain ⟨ap,hr⟩:∃ r,fk ac=r:=⟨_,rfl⟩
 replace hm:=hm ap hr
 rw [hr] at h105
 clear hr
 subst hp
 replace hS:=hS.oK (id:=701) (t:=113) (cs:=[V (.map (some f9))]) kr kr FI rfl
 replace hS:=hS.CF (t:=12) (x:=V (.func (.func 99) #[] #[.pointer (some ⟨b107,0,none⟩)])) (y:=.f (.func 99) [] [.p 701 0]) kr rfl
 generalize (upd Z 701 b107)=Z at hS
 clear FI
 refine ePe T hS [11,12] [(7,.f (.func 99) [] [.p 701 0])] fun a hS=>?_
 refine rPe T hS [] [(8,V (.slice none 0 0))] fun a hS=>?_
 refine bT (fun a w=>∃ (Z:Nat->Nat) (X:Nat->Nat) (cH:List Int) (fH:Option Addr) (fG:Nat),VC64_J1 Q cH/\St Tryz.f64.ntmps ⟨[(8,Sl fH cH fG)],[]⟩ Z a w X/\Old w0 X0 w X/\OS tI 3 w X 1007 fH cH fG) ?_ ?_
 ·refine rPe T hS [0] [(13,Sl a1 l_ c1),(14,I (lN l_)),(15,I 0)] fun a hS=>?_
  refine aL ?_
  obtain ⟨I1,μ1,co,hm⟩:=hm
  refine cl (σ:=(List Int) × Int) (fun s a w=>∃ Z X dA dz,I1 s.1 s.2/\St Tryz.f64.ntmps ⟨[(2,B pending),(7,.f (.func 99) [] [.p 701 0]),(8,Sl dA s.1 dz),(13,Sl a1 l_ c1),(14,I (lN l_)),(15,I s.2)],[(701,(113,[V (.map (some f9))]))]⟩ Z a w X/\Old w0 X0 w X/\OS tI 3 w X 1007 dA s.1 dz/\RS ao w X a1 l_ c1/\OM kI tI false w X 2106 f9 ap) (fun s=>μ1 s.1 s.2) (⟨[],0⟩) ?_ ?_
  ·exact ⟨Z,_,none,0,co,hS.sl _,hO,(OS.nil _ _ _ _ _),h1,h105⟩
  rintro ⟨be,dB⟩ a zi ⟨Z,Hn,dA,dz,hI,hS,hO,h118,h119,h121⟩
  replace hm:=hm be dB hI
  clear hI co
  refine rPe T hS [] [(16,B (decide (dB < (lN l_))))] fun a hS=>?_
  refine bc ?_
  refine aG hS (b:=decide (dB < (lN l_))) kr (fun hb=>?_) fun hb=>?_
  ·replace hm:=hm.1 hb
   refine aH ?_
   refine bT (fun a w=>∃ (Z:Nat->Nat) (X:Nat->Nat) (aW:List Int) (oY:Option Addr) (oW:Nat),VC64_J2 I1 μ1 be dB aW/\St Tryz.f64.ntmps ⟨[(2,B pending),(7,.f (.func 99) [] [.p 701 0]),(8,Sl oY aW oW),(13,Sl a1 l_ c1),(14,I (lN l_)),(15,I dB)],[(701,(113,[V (.map (some f9))]))]⟩ Z a w X/\Old w0 X0 w X/\OS tI 3 w X 1007 oY aW oW/\RS ao w X a1 l_ c1/\OM kI tI false w X 2106 f9 ap) ?_ ?_
   ·refine aL ?_
    refine bj ?_
    refine oPe T hS 1 [16] [(17,I dB)] fun a hS=>?_
    obtain ⟨hq,hm⟩:=hm
    refine op1 (index (e:=102) (k:=.i64) T hS kr kr kr kr h119 kr kr hq.1 hq.2 ?_)
    intro NJ a h129 hS
    refine op1 (eC T hS kr kr kr h129 kr kr ?_)
    intro v130 a hv hS
    subst hv
    refine eM T hS ⟨[(2,B pending),(7,.f (.func 99) [] [.p 701 0]),(8,Sl dA be dz),(9,I dB),(10,Pt 11 0),(13,Sl a1 l_ c1),(14,I (lN l_)),(15,I dB)],[(11,(102,(cP (gi l_ dB)))),(701,(113,[V (.map (some f9))]))]⟩ fun Z a DE AF hS hE hr=>?_
    replace hO:=hO.m2 hE
    replace h118:=h118.m2 hE
    replace h119:=h119.m1 hE
    replace h121:=h121.m2 hE
    clear hE hr
    refine bT (fun a w=>∃ (Z:Nat->Nat) (X:Nat->Nat) (fW:List Int) (jO:Bool) (gK:Option Addr) (gJ:Nat),VC64_J3 I1 μ1 be dB fW jO/\St Tryz.f64.ntmps ⟨[(2,B pending),(7,.f (.func 99) [] [.p 701 0]),(8,Sl gK fW gJ),(9,I dB),(13,Sl a1 l_ c1),(14,I (lN l_)),(15,I dB),(29,B jO)],[(701,(113,[V (.map (some f9))]))]⟩ Z a w X/\Old w0 X0 w X/\OS tI 3 w X 1007 gK fW gJ/\RS ao w X a1 l_ c1/\OM kI tI false w X 2106 f9 ap) ?_ ?_
    ·refine region ?_
     refine oP T hS 6 ⟨[(2,B pending),(7,.f (.func 99) [] [.p 701 0]),(8,Sl dA be dz),(9,I dB),(13,Sl a1 l_ c1),(14,I (lN l_)),(15,I dB),(25,B ((((gi l_ dB).End) == (-1)) == pending))],[(701,(113,[V (.map (some f9))]))]⟩ fun a hS=>?_
     rcases bft ((((gi l_ dB).End) == (-1)) == pending) with hb | hb
     ·replace hS:=hS.lit (t:=25) kr hb
      replace hm:=hm.1 hb
      refine oPe T hS 2 [] [(26,.f (.func 99) [] [.p 701 0]),(27,I dB)] fun a hS=>?_
      refine op1 (kd (fi:=[]) (cp:=[.p 701 0]) hS kr kr hb99 kr kr (Li _ _ dB ap f9 2106 (Z 701) 701 h121 (hS.cell (id:=701) (t:=113) (cs:=[V (.map (some f9))]) kr) ⟨by decide,by decide⟩) ?_)
      intro v147 a zk xC hE hp hS
      clear h121
      replace hO:=hO.m2 hE
      replace h118:=h118.m2 hE
      replace h119:=h119.m1 hE
      obtain ⟨hp,Fs,h152⟩:=hp
      obtain ⟨nN,hr⟩:∃ r,fg dB ap=r:=⟨_,rfl⟩
      replace hm:=hm nN hr
      rw [hr] at hp
      clear hr
      subst hp
      replace hS:=hS.cD (id:=701) (t:=113) (cs:=[V (.map (some f9))]) kr Fs
      clear Fs
      refine ePe T hS [25,26,27,28] [(29,B nN)] fun a hS=>?_
      exact ⟨Z,_,be,nN,dA,dz,hm,hS.sl _,hO,h118,h119,h152⟩
     replace hS:=hS.lit (t:=25) kr hb
     replace hm:=hm.2 hb
     refine ePe T hS [25] [(29,B false)] fun a hS=>?_
     exact ⟨Z,_,be,false,dA,dz,hm,hS.sl _,hO,h118,h119,h121⟩
    rintro a rr ⟨Z,EU,fW,jO,gK,gJ,hm,hS,hO,h134,h135,h137⟩
    unfold VC64_J3 at hm
    refine aG hS (b:=jO) kr (fun hb=>?_) fun hb=>?_
    ·replace hm:=hm.1 hb
     refine region ?_
     refine oPe T hS 2 [9,29] [(30,Sl gK fW gJ),(31,I dB)] fun a hS=>?_
     refine op1 (lit (E:=3) (col:=0) (T:=tI) (vals:=[.int .i64 dB]) (ys:=[dB]) T hS kr kr kr kr (by exact ⟨rfl,trivial⟩) rfl kr kr kr kr ?_)
     intro b138 a rt uc hE h141 hN hS
     clear hN
     replace hO:=hO.m2 hE
     replace h134:=h134.m2 hE
     replace h135:=h135.m1 hE
     replace h137:=h137.m2 hE
     replace h141:=h141.rs0
     obtain ⟨hq,hm⟩:=hm
     obtain ⟨news,hN⟩:=h141.src
     refine op1 (append (E:=3) (T:=tI) (col:=1007) (xs:=fW) T hS kr kr kr kr h134 hN kr kr kr kr hq ?_)
     intro v2 vP a pm rk hE h144 hS
     clear hq hN
     clear h134
     replace hO:=hO.m2 hE
     replace h135:=h135.m1 hE
     replace h137:=h137.m2 hE
     replace h141:=h141.m1 hE
     refine ePe T hS [31,32,33] [(8,Sl v2 (fW++[dB]) vP)] fun a hS=>?_
     exact ⟨Z,_,fW++[dB],v2,vP,hm,hS.sl _,hO,h144,h135,h137⟩
    replace hm:=hm.2 hb
    refine aH ?_
    exact ⟨Z,_,fW,gK,gJ,hm,hS.sl _,hO,h134,h135,h137⟩
   rintro a DD ⟨Z,Ho,aW,oY,oW,hm,hS,hO,h125,h126,h127⟩
   unfold VC64_J2 at hm
   refine region (ePe T hS [] [(15,I (wR (dB+1)))] fun a hS=>?_)
   exact ⟨⟨aW,wR (dB+1)⟩,⟨Z,_,oY,oW,hm.1,hS.sl _,hO,h125,h126,h127⟩,hm.2⟩
  replace hm:=hm.2 hb
  refine cb (by rfl) ?_
  exact ⟨Z,_,be,dA,dz,hm,hS.sl _,hO,h118⟩
 rintro a DC ⟨Z,AE,cH,fH,fG,hm,hS,hO,h112⟩
 unfold VC64_J1 at hm
 refine rPe T hS [8] [(6,Sl fH cH fG)] fun a hS=>?_
 refine aY ?_
 obtain ⟨uf,hE,hF⟩:=h112.freeze (by decide)
 replace hS:=hS.ev hE (cr kr)
 replace hO:=hO.m2 hE
 have h114:=hF; clear hE hF
 exact fin T hS hO (fun c=>c) rfl (r:=[.slice fH cH.length fG]) kr (fun X' hM hC=>⟨cH,hm,fH,fG,rfl,h114.m0 hM⟩)
theorem C64 (Ls:S87) (Li:S99) (v:∀ (l_:List ab) (ac:List aa) (pending:Bool),uP l_ ac pending->VC64 l_ ac pending (fun r=>r=en l_ ac pending)):S64:=by
 intro w X l_ ac pending a1 c1 a2 c2   hp h1 h2
 refine (W64 Ls Li w X l_ ac pending a1 c1 a2 c2   _ (v l_ ac pending hp) h1 h2).mono ?_
 rintro _ _ _ _ ⟨r,rfl,h⟩
 exact h
theorem W35 (LF:S64) (w0) (X0) (l_:List ab) (ac:List aa) (a1) (c1) (a2) (c2) (Q:(List Int)->Prop) (hm:VC35 l_ ac Q) (h1:RS ao w0 X0 a1 l_ c1) (h2:RS aq w0 X0 a2 ac c2) :
  Ret Tryz.prog 35 #[.slice a1 l_.length c1,.slice a2 ac.length c2] aJ w0 X0 (fun w X' v=>∃ r,Q r/\∃ cn cm,v=.slice cn r.length cm/\RS tI w X' cn r cm):=by
 unfold VC35 at hm
 replace hm:=hm (h1.sm kr)
 replace hm:=hm (h2.sm kr)
 refine enter Tryz.func35 rfl (vals:=[.slice a1 l_.length c1,.slice a2 ac.length c2]) kr ?_
 intro Z a hS hO hM
 replace h1:=h1.m0 hM
 replace h2:=h2.m0 hM
 refine rPe T hS [] [] fun a hS=>?_
 refine bj ?_
 refine oPe T hS 2 [0,1] [(5,Sl a1 l_ c1),(6,Sl a2 ac c2)] fun a hS=>?_
 obtain ⟨hq,hm⟩:=hm
 refine op1 (call hS kr kr hb64 kr (fun _ _=>rfl) (LF _ _ l_ ac false a1 c1 a2 c2 hq h1 h2) ?_)
 intro v101 a eZ fa hE hp hS
 replace hO:=hO.m2 hE
 replace h1:=h1.m1 hE
 replace h2:=h2.m1 hE
 obtain ⟨dK,dJ,hp,h107⟩:=hp
 obtain ⟨ap,hr⟩:∃ r,en l_ ac false=r:=⟨_,rfl⟩
 replace hm:=hm ap hr
 rw [hr] at hp h107
 clear hr
 subst hp
 replace hm:=hm (h107.sm kr)
 refine ePe T hS [5,6,7] [(4,Sl dK ap dJ)] fun a hS=>?_
 refine aY ?_
 exact fin T hS hO (fun c=>c) rfl (r:=[.slice dK ap.length dJ]) kr (fun X' hM hC=>⟨ap,hm,dK,dJ,rfl,h107.m0 hM⟩)
theorem C35 (LF:S64) (v:∀ (l_:List ab) (ac:List aa),ql l_ ac->VC35 l_ ac (fun r=>r=b7 l_ ac)):S35:=by
 intro w X l_ ac a1 c1 a2 c2   hp h1 h2
 refine (W35 LF w X l_ ac a1 c1 a2 c2   _ (v l_ ac hp) h1 h2).mono ?_
 rintro _ _ _ _ ⟨r,rfl,h⟩
 exact h
theorem W63 (w0) (X0) (a_:ab) (b_:ab) (Q:Bool->Prop) (hm:VC63 a_ b_ Q) :
  Ret Tryz.prog 63 #[.agg #[.int .i64 a_.aj,.int .i64 a_.Kind,.int .i64 a_.aE,.int .i64 a_.End,.int .i64 a_.Result],.agg #[.int .i64 b_.aj,.int .i64 b_.Kind,.int .i64 b_.aE,.int .i64 b_.End,.int .i64 b_.Result]] aJ w0 X0 (fun w X' v=>∃ r,Q r/\v=.bool r):=by
 unfold VC63 at hm
 refine enter Tryz.func63 rfl (vals:=[.agg #[.int .i64 a_.aj,.int .i64 a_.Kind,.int .i64 a_.aE,.int .i64 a_.End,.int .i64 a_.Result],.agg #[.int .i64 b_.aj,.int .i64 b_.Kind,.int .i64 b_.aE,.int .i64 b_.End,.int .i64 b_.Result]]) kr ?_
 intro Z a hS hO hM
 refine rM T hS ⟨[(2,Pt 3 0),(3,Pt 4 0)],[(3,(102,(cP a_))),(4,(102,(cP b_)))]⟩ fun Z a oE o3 hS hE hr=>?_
 replace hO:=hO.m2 hE
 clear hE hr
 refine rP T hS ⟨[(4,B ((decide (a_.End≥0)) && (decide (a_.End < b_.aE))))],[]⟩ (sp:=[8]) fun a hS=>?_
 refine aY ?_
 exact fin T hS hO (fun c=>c) rfl (r:=[.bool ((decide (a_.End≥0)) && (decide (a_.End < b_.aE)))]) kr (fun X' hM hC=>⟨((decide (a_.End≥0)) && (decide (a_.End < b_.aE))),hm,rfl⟩)
theorem C63 (v:∀ (a_:ab) (b_:ab),VC63 a_ b_ (fun r=>r=aZ a_ b_)):S63:=by
 intro w X a_ b_    
 refine (W63 w X a_ b_    _ (v a_ b_)).mono ?_
 rintro _ _ _ _ ⟨r,rfl,h⟩
 exact h
end Go.Proofs.YteahldlmkheleaaGreat
