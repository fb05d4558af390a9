/- Walks of the functions: each returns what its condition asks. Condition: the contracts of its callees, handed in. -/
import Derived.Test.YtobeanopikjkeaaGreatGWalksS
set_option linter.all false
namespace Go.Proofs.YtobeanopikjkeaaGreat
open Go Go.Sv
abbrev zL3d0 (gx:Nat):Nat->Nat:=fun c=>(bif Nat.beq c 1005 then gx else c)
abbrev zL3d1 (i1 i2 i3 i4 m4:Nat):List (Nat × Nat):=[(i1,901),(i2,902),(i3,903),(i4,904),(m4,2004)]
abbrev zL3d2 (i1 i2 i3:Nat):List (Nat × Nat):=[(i1,901),(i2,902),(i3,903)]
set_option maxHeartbeats 1000000
theorem W85 (Ml:S127) (w0) (X0) (x_:List Int) (count:Int) (a1) (c1) (gx) (Q:(List Int)->Prop) (hm:VC85 x_ count Q) (h1:RS tI w0 X0 a1 x_ c1) :
  rt 85 #[.slice a1 x_.length c1,ii count] aB w0 X0 (fun w X' v=>∃ r,Q r/\∃ dg de,v=.slice dg r.length de/\OS tI 3 w X' gx dg r de):=by
 unfold VC85 at hm
 replace hm:=hm (h1.sm kr)
 refine enter Tryz.func85 rfl (vals:=[.slice a1 x_.length c1,ii count]) kr ?_
 intro Z a hS hO hM
 replace h1:=h1.m0 hM
 refine rPe T hS [] [] fun a hS=>(a8 ?_)
 refine rPe T hS [] [(10,B (decide (count < 0)))] fun a hS=>(aC hS (b:=decide (count < 0)) kr (fun hb=>?_) fun hb=>?_)
 ·replace hm:=hm.1 hb
  exact hm.elim
 replace hm:=hm.2 hb
 refine aI (bk ?_)
 refine oPe T hS 5 [1,10] [(15,V (.int .u64 (IntKind.u64.wrap (lN x_)))),(17,V (.int .u64 (IntKind.u64.wrap count)))] fun a hS=>?_
 obtain ⟨hq,hm⟩:=hm
 refine op1 (call hS kr kr hb127 kr (fun _ _=>rfl) (Ml _ _ (IntKind.u64.wrap (lN x_)) (IntKind.u64.wrap count) hq) ?_)
 intro v101 a eI eN hE hp hS
 have ⟨hO,h1⟩:=e2e hE hO.m2 h1.m1
 generalize hr:fN (IntKind.u64.wrap (lN x_)) (IntKind.u64.wrap count)=al at hp
 replace hm:=hm al hr
 subst hp
 refine ePe T hS [15,17,18] [(5,V (.int .u64 al.1)),(6,V (.int .u64 al.2))] fun a hS=>(a8 ?_)
 refine rPe T hS [5] [(26,B ((decide (al.1 > 0)) || (decide (al.2 > 9223372036854775807))))] (sp:=[23]) fun a hS=>(aC hS (b:=((decide (al.1 > 0)) || (decide (al.2 > 9223372036854775807)))) kr (fun hb=>?_) fun hb=>?_)
 ·replace hm:=hm.1 hb
  exact hm.elim
 replace hm:=hm.2 hb
 refine aI (bk ?_)
 refine oPe T hS 2 [6,26] [(29,I (wR al.2))] fun a hS=>?_
 obtain ⟨hq,hm⟩:=hm
 refine op1 (make (E:=3) (kl:=.i64) (kc:=.i64) (col:=1005) (T:=tI) T 0 hS kr kr kr kr kr kr hq.1 hq.2.1 (by have:=hq.2.2; have e_:((tI.bytes:Nat):Int)=8:=rfl; rw [e_]; omega) (by have:=hq.2.2; omega) (fun _ _=>rfl) ?_)
 intro b105 a o9 qf hE h108 hN hS
 clear hq hN
 have ⟨hO,h1⟩:=e2e hE hO.m2 h1.m1
 replace hS:=hS.conv (t:=30) (y:=.slice (some ⟨b105,0,none⟩) (List.replicate (wR al.2).toNat (0:Int)).length (wR al.2).toNat) kr (by rw [List.length_replicate])
 refine ePe T hS [29,30] [(7,V (.slice (some ⟨b105,0,none⟩) (List.replicate (wR al.2).toNat (0:Int)).length (wR al.2).toNat))] fun a hS=>(bk ?_)
 refine oPe T hS 2 [0] [(31,V (.slice (some ⟨b105,0,none⟩) (List.replicate (wR al.2).toNat (0:Int)).length (wR al.2).toNat)),(32,Sl a1 x_ c1)] fun a hS=>?_
 obtain ⟨news,hN⟩:=h1.src
 refine op1 (La (E:=3) (T:=tI) (xs:=List.replicate (wR al.2).toNat (0:Int)) (ys:=x_) (l:=0) (cx:=(wR al.2).toNat) T hS kr kr kr (vv h108) kr h108 hN kr kr kr (Nat.zero_le _) ?_)
 intro a sx hE h110 hS
 clear hN h108
 have ⟨hO,h1⟩:=e2e hE hO.m2 h1.m1
 replace hS:=hS.conv (t:=7) (x:=.slice (some ⟨b105,0,none⟩) (List.replicate (wR al.2).toNat (0:Int)).length (wR al.2).toNat) (y:=.slice (some ⟨b105,0,none⟩) ((List.replicate (wR al.2).toNat (0:Int)).take 0++x_.take ((List.replicate (wR al.2).toNat (0:Int)).length - 0)++(List.replicate (wR al.2).toNat (0:Int)).drop (0+min x_.length ((List.replicate (wR al.2).toNat (0:Int)).length - 0))).length (wR al.2).toNat) kr (by simp only [List.length_append,List.length_take,List.length_drop]; congr 1 <;> omega)
 replace hS:=hS.conv (t:=31) (x:=.slice (some ⟨b105,0,none⟩) (List.replicate (wR al.2).toNat (0:Int)).length (wR al.2).toNat) (y:=.slice (some ⟨b105,0,none⟩) ((List.replicate (wR al.2).toNat (0:Int)).take 0++x_.take ((List.replicate (wR al.2).toNat (0:Int)).length - 0)++(List.replicate (wR al.2).toNat (0:Int)).drop (0+min x_.length ((List.replicate (wR al.2).toNat (0:Int)).length - 0))).length (wR al.2).toNat) kr (by simp only [List.length_append,List.length_take,List.length_drop]; congr 1 <;> omega)
 refine ePe T hS [31,32,33] [(8,I ((min x_.length ((List.replicate (wR al.2).toNat (0:Int)).length - 0):Nat):Int))] fun a hS=>(cg (fun a w=>∃ Z X,∃ (bO:List Int) (du:Option Addr) (dq:Nat),VC85_J1 Q bO/\St Tryz.f85.ntmps ⟨[(7,Sl du bO dq)],[]⟩ Z a w X/\Old w0 X0 w X/\OS tI 3 w X 1005 du bO dq) ?_ ?_)
 ·refine aH ?_
  obtain ⟨I1,μ1,cC,hm⟩:=hm
  refine cu (σ:=(List Int) × Int) (fun s a w=>∃ Z X dT dS,I1 s.1 s.2/\St Tryz.f85.ntmps ⟨[(7,Sl dT s.1 dS),(8,I s.2)],[]⟩ Z a w X/\Old w0 X0 w X/\OS tI 3 w X 1005 dT s.1 dS) (fun s=>μ1 s.1 s.2) (⟨(List.replicate (wR al.2).toNat (0:Int)).take 0++x_.take ((List.replicate (wR al.2).toNat (0:Int)).length - 0)++(List.replicate (wR al.2).toNat (0:Int)).drop (0+min x_.length ((List.replicate (wR al.2).toNat (0:Int)).length - 0)),((min x_.length ((List.replicate (wR al.2).toNat (0:Int)).length - 0):Nat):Int)⟩) ?_ ?_
  ·exact ⟨Z,_,(some ⟨b105,0,none⟩),(wR al.2).toNat,cC,hS.sl _,hO,h110⟩
  rintro ⟨ba,cn⟩ a vE ⟨Z,AO,dT,dS,hI,hS,hO,h118⟩
  replace hm:=hm ba cn hI
  clear hI cC
  refine a8 (rPe T hS [] [(37,B (decide (cn < (lN ba))))] fun a hS=>?_)
  refine aC hS (b:=decide (cn < (lN ba))) kr (fun hb=>?_) fun hb=>?_
  ·replace hm:=hm.1 hb
   refine aI (aH ?_)
   refine je [] mixed hS ?_
   intro ED JR hS hE hD hH
   have ⟨hO,h118⟩:=e2e hE hO.m2 h118.m2
   refine tke T [0,1,2,4,5] [] hS hH #[true,true,true,false,true,true,false,false,false,false] 5 [] [(38,I cn),(39,Sl dT ba dS),(40,I cn),(42,Sl dT ba dS),(43,I cn)] fun a hS=>?_
   obtain ⟨oc,hm⟩:=hm
   refine Jb (E:=3) (k:=.i64) (l:=cn) T 3 hS kr kr kr (by rfl) kr hH kr kr h118 kr kr oc.1 oc.2 ?_
   intro a hS
   obtain ⟨Ko,hm⟩:=hm
   refine Jc (E:=3) (k:=.i64) (l:=cn) T 6 hS kr kr kr (by rfl) kr hH kr kr h118 kr kr Ko.1 Ko.2 ?_
   intro a hS
   obtain ⟨news,hN⟩:=(h118.HW cn.toNat)
   refine only 7 kr (by rfl) (La (E:=3) (T:=tI) (xs:=ba) (ys:=ba.take cn.toNat) (l:=cn.toNat) (cx:=dS - cn.toNat) T hS kr kr kr rfl kr h118 hN kr kr kr (by have:=oc.1; have:=oc.2; omega) ?_)
   intro a CB hE h125 hS
   clear hN h118
   replace hO:=hO.m2 hE
   replace hD:=hD.ev hE rfl
   replace hS:=hS.conv (t:=7) (x:=.slice dT ba.length dS) (y:=.slice dT (ba.take cn.toNat++(ba.take cn.toNat).take (ba.length - cn.toNat)++ba.drop (cn.toNat+min (ba.take cn.toNat).length (ba.length - cn.toNat))).length dS) kr (by have:=oc.1; have:=oc.2; simp only [List.length_append,List.length_take,List.length_drop]; congr 1 <;> omega)
   replace hS:=hS.conv (t:=39) (x:=.slice dT ba.length dS) (y:=.slice dT (ba.take cn.toNat++(ba.take cn.toNat).take (ba.length - cn.toNat)++ba.drop (cn.toNat+min (ba.take cn.toNat).length (ba.length - cn.toNat))).length dS) kr (by have:=oc.1; have:=oc.2; simp only [List.length_append,List.length_take,List.length_drop]; congr 1 <;> omega)
   replace hS:=hS.conv (t:=42) (x:=.slice dT ba.length dS) (y:=.slice dT (ba.take cn.toNat++(ba.take cn.toNat).take (ba.length - cn.toNat)++ba.drop (cn.toNat+min (ba.take cn.toNat).length (ba.length - cn.toNat))).length dS) kr (by have:=oc.1; have:=oc.2; simp only [List.length_append,List.length_take,List.length_drop]; congr 1 <;> omega)
   refine cm (br.of hS (bks:=[]) kr hD) ?_
   intro hH
   refine tke T [8,9] [] hS hH (tts 10) 0 [38,39,40,42,43,45] [(8,I (wR (cn+((min (ba.take cn.toNat).length (ba.length - cn.toNat):Nat):Int))))] fun a hS=>(bn kr ?_)
   replace hS:=hS.sle [] []
   exact ⟨⟨ba.take cn.toNat++(ba.take cn.toNat).take (ba.length - cn.toNat)++ba.drop (cn.toNat+min (ba.take cn.toNat).length (ba.length - cn.toNat)),wR (cn+((min (ba.take cn.toNat).length (ba.length - cn.toNat):Nat):Int))⟩,⟨Z,_,dT,dS,hm.1,hS.sl _,hO,h125⟩,hm.2⟩
  replace hm:=hm.2 hb
  refine cl (by rfl) ?_
  exact ⟨Z,_,ba,dT,dS,hm,hS.sl _,hO,h118⟩
 rintro a EC ⟨Z,AN,bO,du,dq,hm,hS,hO,h114⟩
 unfold VC85_J1 at hm
 refine rPe T hS [7] [(4,Sl du bO dq)] fun a hS=>(aR ?_)
 exact fin T hS hO (zL3d0 gx) rfl (r:=[.slice du bO.length dq]) kr (fun X' hM hC=>⟨bO,hm,du,dq,rfl,(OS.out (f:=(zL3d0 gx)) h114 hM hC kr)⟩)
theorem C85 (Ml:S127) (v:∀ (x_:List Int) (count:Int),vW x_ count->VC85 x_ count (fun r=>r=cP x_ count)):S85:=fun w X x_ count a1 c1 gx hp h1=>mo1 (W85 Ml w X x_ count a1 c1 gx _ (v x_ count hp) h1)
theorem W35 (zU:S25) (mi:S59) (oG:S65) (Tt:S85) (w0) (X0) (s_:aa) (m_:List Bool) (a1) (c1) (Q:(List Int) × Bool->Prop) (hm:VC35 s_ m_ Q) (h1:RS cD w0 X0 a1 m_ c1) :
  rt 35 #[.agg #[ii s_.Ops,ii s_.ab],.slice a1 m_.length c1] aB w0 X0 (fun w X' v=>∃ r,Q r/\∃ dg de,v=.tuple #[.slice dg r.1.length de,.bool r.2]/\RS tI w X' dg r.1 de):=by
 unfold VC35 at hm
 replace hm:=hm (h1.sm kr)
 refine enter Tryz.func35 rfl (vals:=[.agg #[ii s_.Ops,ii s_.ab],.slice a1 m_.length c1]) kr ?_
 intro Z a hS hO hM
 replace h1:=h1.m0 hM
 refine rM T hS ⟨[(1,Sl a1 m_ c1),(2,Pt 3 0)],[(3,(61,[I s_.Ops,I s_.ab]))]⟩ fun Z a YS acw hS hE hr=>?_
 have ⟨hO,h1⟩:=e2e hE hO.m2 h1.m1
 clear hE hr
 refine a8 (cg (fun a w=>∃ Z X,∃ (bE:Bool),VC35_J1 s_ m_ Q bE/\St Tryz.f35.ntmps ⟨[(1,Sl a1 m_ c1),(2,Pt 3 0),(19,B bE)],[(3,(61,[I s_.Ops,I s_.ab]))]⟩ Z a w X/\Old w0 X0 w X/\RS cD w X a1 m_ c1) ?_ ?_)
 ·refine region (oPe T hS 1 [] [(10,V (.agg #[ii s_.Ops,ii s_.ab]))] fun a hS=>?_)
  refine op1 (call hS kr kr hb59 kr (fun _ _=>rfl) (mi _ _ s_) ?_)
  intro v181 a Ln VD hE hp hS
  have ⟨hO,h1⟩:=e2e hE hO.m2 h1.m1
  generalize hr:ao s_=zp at hp
  replace hm:=hm zp hr
  subst hp
  refine oPe T hS 2 [10,11] [(13,B (zp != 0))] fun a hS=>?_
  rcases bft (zp != 0) with hb | hb
  ·replace hS:=hS.lit (t:=13) kr hb
   replace hm:=hm.1 hb
   refine ePe T hS [13] [(19,B true)] fun a hS=>?_
   exact ⟨Z,_,true,hm,hS.sl _,hO,h1⟩
  replace hS:=hS.lit (t:=13) kr hb
  replace hm:=hm.2 hb
  refine oPe T hS 3 [] [(15,I (lN m_)),(16,V (.agg #[ii s_.Ops,ii s_.ab]))] fun a hS=>(op1 (call hS kr kr hb25 kr (fun _ _=>rfl) (zU _ _ s_) ?_))
  intro v185 a SL VC hE hp hS
  have ⟨hO,h1⟩:=e2e hE hO.m2 h1.m1
  generalize hr:aw s_=CS at hp
  replace hm:=hm CS hr
  subst hp
  refine ePe T hS [13,15,16,17] [(19,B ((lN m_) != CS))] fun a hS=>?_
  exact ⟨Z,_,((lN m_) != CS),hm,hS.sl _,hO,h1⟩
 rintro a Ov ⟨Z,VB,bE,hm,hS,hO,h101⟩
 unfold VC35_J1 at hm
 refine aC hS (b:=bE) kr (fun hb=>?_) fun hb=>?_
 ·replace hm:=hm.1 hb
  refine rP T hS ⟨[(4,V (.slice none 0 0)),(5,B false)],[]⟩ fun a hS=>(aR ?_)
  exact fin T hS hO (fun c=>c) rfl (r:=[.slice none 0 0,.bool false]) kr (fun X' hM hC=>⟨([],false),hm,none,0,rfl,RS.empty _ _ _⟩)
 replace hm:=hm.2 hb
 refine aI (bk ?_)
 refine op1 (lit (E:=3) (col:=0) (T:=tI) (vals:=[ii (-1)]) (ys:=[(-1)]) T hS kr kr kr kr (by exact ⟨rfl,trivial⟩) rfl kr kr kr kr ?_)
 intro b103 a EH wX hE h106 hN hS
 clear hN
 have ⟨hO,h101⟩:=e2e hE hO.m2 h101.m1
 replace h106:=h106.rs0
 refine oPe T hS 2 [19] [(22,I s_.Ops)] fun a hS=>?_
 obtain ⟨hq,hm⟩:=hm
 refine op1 (call hS kr kr hb85 kr (fun _ _=>rfl) (Tt _ _ [(-1)] s_.Ops (some ⟨b103,0,none⟩) 1 1005 hq h106) ?_)
 intro v107 a HR tN hE hp hS
 have ⟨hO,h101,h106⟩:=e3e hE hO.m2 h101.m1 h106.m1
 obtain ⟨wU,wK,hp,h113⟩:=hp
 obtain ⟨fS,hr⟩:∃ r,cP [(-1)] s_.Ops=r:=⟨_,rfl⟩
 replace hm:=hm fS hr
 rw [hr] at hp h113
 clear hr
 subst hp
 replace hm:=hm (h113.sm kr)
 refine ePe T hS [20,22,23] [(6,Sl wU fS wK)] fun a hS=>(cg (fun a w=>∃ Z X,∃ (rH:List Int) (DZ:Option Addr) (DN:Nat),VC35_J2 Q rH/\St Tryz.f35.ntmps ⟨[(6,Sl DZ rH DN)],[]⟩ Z a w X/\Old w0 X0 w X/\OS tI 3 w X 1005 DZ rH DN) ?_ ?_)
 ·refine rPe T hS [] [(25,I s_.Ops),(26,I 0)] fun a hS=>(aH ?_)
  obtain ⟨I1,μ1,cC,hm⟩:=hm
  refine cu (σ:=(List Int) × Int) (fun s a w=>∃ Z X wT wJ,I1 s.1 s.2/\St Tryz.f35.ntmps ⟨[(1,Sl a1 m_ c1),(2,Pt 3 0),(6,Sl wT s.1 wJ),(25,I s_.Ops),(26,I s.2)],[(3,(61,[I s_.Ops,I s_.ab]))]⟩ Z a w X/\Old w0 X0 w X/\RS cD w X a1 m_ c1/\OS tI 3 w X 1005 wT s.1 wJ) (fun s=>μ1 s.1 s.2) (⟨fS,0⟩) ?_ ?_
  ·exact ⟨Z,_,wU,wK,cC,hS.sl _,hO,h101,h113⟩
  rintro ⟨HF,gG⟩ a HJ ⟨Z,VF,wT,wJ,hI,hS,hO,h120,h124⟩
  replace hm:=hm HF gG hI
  clear hI cC
  refine rPe T hS [] [(27,B (decide (gG < s_.Ops)))] fun a hS=>(a8 ?_)
  refine aC hS (b:=decide (gG < s_.Ops)) kr (fun hb=>?_) fun hb=>?_
  ·replace hm:=hm.1 hb
   refine aI (a8 ?_)
   refine aH (rPe T hS [27] [(7,I gG)] fun a hS=>?_)
   refine rPe T hS [] [(8,I (-1))] fun a hS=>(cg (fun a w=>∃ Z X,∃ (bP:List Int) (mG:Int) (gE:Option Addr) (gC:Nat),VC35_J3 Q I1 μ1 HF gG bP mG/\St Tryz.f35.ntmps ⟨[(1,Sl a1 m_ c1),(2,Pt 3 0),(6,Sl gE bP gC),(8,I mG),(25,I s_.Ops),(26,I gG)],[(3,(61,[I s_.Ops,I s_.ab]))]⟩ Z a w X/\Old w0 X0 w X/\RS cD w X a1 m_ c1/\OS tI 3 w X 1005 gE bP gC) ?_ ?_)
   ·refine rPe T hS [] [(30,I s_.Ops),(31,I 0)] fun a hS=>(aH ?_)
    obtain ⟨I2,μ2,cC,hm⟩:=hm
    refine cu (σ:=(List Int) × Int × Int) (fun s a w=>∃ Z X lx lr,I2 s.1 s.2.1 s.2.2/\St Tryz.f35.ntmps ⟨[(1,Sl a1 m_ c1),(2,Pt 3 0),(6,Sl lx s.1 lr),(7,I gG),(8,I s.2.1),(25,I s_.Ops),(26,I gG),(30,I s_.Ops),(31,I s.2.2)],[(3,(61,[I s_.Ops,I s_.ab]))]⟩ Z a w X/\Old w0 X0 w X/\RS cD w X a1 m_ c1/\OS tI 3 w X 1005 lx s.1 lr) (fun s=>μ2 s.1 s.2.1 s.2.2) (⟨HF,(-1),0⟩) ?_ ?_
    ·exact ⟨Z,_,wT,wJ,cC,hS.sl _,hO,h120,h124⟩
    rintro ⟨iU,yX,iT⟩ a HK ⟨Z,Rs,lx,lr,hI,hS,hO,h132,h136⟩
    replace hm:=hm iU yX iT hI
    clear hI cC
    refine rPe T hS [] [(32,B (decide (iT < s_.Ops)))] fun a hS=>(a8 ?_)
    refine aC hS (b:=decide (iT < s_.Ops)) kr (fun hb=>?_) fun hb=>?_
    ·replace hm:=hm.1 hb
     refine aI (cg (fun a w=>∃ Z X,∃ (qi:List Int) (HE:Int) (jw:Option Addr) (jt:Nat),VC35_J4 I2 μ2 iU yX iT qi HE/\St Tryz.f35.ntmps ⟨[(1,Sl a1 m_ c1),(2,Pt 3 0),(6,Sl jw qi jt),(7,I gG),(8,I HE),(25,I s_.Ops),(26,I gG),(30,I s_.Ops),(31,I iT)],[(3,(61,[I s_.Ops,I s_.ab]))]⟩ Z a w X/\Old w0 X0 w X/\RS cD w X a1 m_ c1/\OS tI 3 w X 1005 jw qi jt) ?_ ?_)
     ·refine aH (rPe T hS [32] [(9,I iT)] fun a hS=>?_)
      refine a8 (bk ?_)
      refine oPe T hS 5 [] [(34,Sl a1 m_ c1),(35,V (.agg #[ii s_.Ops,ii s_.ab])),(38,V (.agg #[ii 1,ii gG,ii iT]))] fun a hS=>(op1 (call hS kr kr hb65 kr (fun _ _=>rfl) (oG _ _ s_ (⟨1,gG,iT⟩:aW)) ?_))
      intro v145 a EB NX hE hp hS
      have ⟨hO,h132,h136⟩:=e3e hE hO.m2 h132.m1 h136.m2
      generalize hr:bd s_ (⟨1,gG,iT⟩:aW)=tZ at hp
      replace hm:=hm tZ hr
      subst hp
      refine oPe T hS 1 [35,38,39] [(40,I (wR (tZ - 1)))] fun a hS=>?_
      obtain ⟨hq,hm⟩:=hm
      refine op1 (index (e:=4) (k:=.i64) T hS kr kr kr kr h132 kr kr hq.1 hq.2 ?_)
      intro acY a h150 hS
      refine op1 (fc T hS kr kr kr h150 rfl kr ?_)
      intro v151 a hv hS
      cases hv
      refine ePe T hS [34,40,41,42] [(43,B (!(gi m_ (wR (tZ - 1)))))] fun a hS=>(aC hS (b:=(!(gi m_ (wR (tZ - 1))))) kr (fun hb=>?_) fun hb=>?_)
      ·replace hm:=hm.1 hb
       refine cl (by rfl) ?_
       exact ⟨Z,_,iU,yX,lx,lr,hm,hS.sl _,hO,h132,h136⟩
      replace hm:=hm.2 hb
      refine aI (a8 ?_)
      refine cg (fun a w=>∃ Z X,∃ (jf:List Int) (tT:Bool) (rU:Option Addr) (rR:Nat),VC35_J5 Q gG I2 μ2 iU yX iT jf tT/\St Tryz.f35.ntmps ⟨[(1,Sl a1 m_ c1),(2,Pt 3 0),(6,Sl rU jf rR),(7,I gG),(9,I iT),(25,I s_.Ops),(26,I gG),(30,I s_.Ops),(31,I iT),(52,B tT)],[(3,(61,[I s_.Ops,I s_.ab]))]⟩ Z a w X/\Old w0 X0 w X/\RS cD w X a1 m_ c1/\OS tI 3 w X 1005 rU jf rR) ?_ ?_
      ·refine region (oPe T hS 3 [8,43] [(46,B (decide (yX≥0)))] fun a hS=>?_)
       rcases bft (decide (yX≥0)) with hb | hb
       ·replace hS:=hS.lit (t:=46) kr hb
        replace hm:=hm.1 hb
        refine ePe T hS [46] [(52,B true)] fun a hS=>?_
        exact ⟨Z,_,iU,true,lx,lr,hm,hS.sl _,hO,h132,h136⟩
       replace hS:=hS.lit (t:=46) kr hb
       replace hm:=hm.2 hb
       refine oPe T hS 2 [] [(47,Sl lx iU lr),(48,I iT)] fun a hS=>?_
       obtain ⟨xU,hm⟩:=hm
       refine op1 (iC (E:=3) (k:=.i64) T hS kr kr kr kr h136 kr kr xU.1 xU.2 ?_)
       intro V0 a h166 h165 hS
       refine op1 (tl T hS kr kr kr h165 rfl kr ?_)
       intro v168 a hv hS
       cases hv
       refine ePe T hS [46,47,48,49,50] [(52,B (decide ((gi iU iT)≥0)))] fun a hS=>?_
       exact ⟨Z,_,iU,decide ((gi iU iT)≥0),lx,lr,hm,hS.sl _,hO,h132,h136⟩
      rintro a Oz ⟨Z,VG,jf,tT,rU,rR,hm,hS,hO,h152,h156⟩
      unfold VC35_J5 at hm
      refine aC hS (b:=tT) kr (fun hb=>?_) fun hb=>?_
      ·replace hm:=hm.1 hb
       refine rP T hS ⟨[(4,V (.slice none 0 0)),(5,B false)],[]⟩ fun a hS=>(aR ?_)
       exact fin T hS hO (fun c=>c) rfl (r:=[.slice none 0 0,.bool false]) kr (fun X' hM hC=>⟨([],false),hm,none,0,rfl,RS.empty _ _ _⟩)
      replace hm:=hm.2 hb
      refine aI (region ?_)
      refine oPe T hS 5 [9,52] [(8,I iT),(53,Sl rU jf rR),(54,I iT),(56,I gG)] fun a hS=>?_
      obtain ⟨xV,hm⟩:=hm
      refine op1 (iC (E:=3) (k:=.i64) T hS kr kr kr kr h156 kr kr xV.1 xV.2 ?_)
      intro RI a h160 h159 hS
      refine op1 (mR (x:=gG) (v:=I gG) (i:=iT.toNat) (E:=3) (xs:=jf) T hS kr kr kr kr h156 h160 (by have:=xV.1; have:=xV.2; omega) kr (fun _ _ _=>rfl) ?_)
      intro a OE hE h163 hS
      clear h156 h160 h159 xV
      have ⟨hO,h152⟩:=e2e hE hO.m2 h152.m1
      replace hS:=hS.conv (t:=6) (y:=.slice rU (jf.set iT.toNat gG).length rR) kr (by rw [List.length_set])
      replace hS:=hS.conv (t:=53) (y:=.slice rU (jf.set iT.toNat gG).length rR) kr (by rw [List.length_set])
      refine gM ?_
      exact ⟨Z,_,(jf.set iT.toNat gG),iT,rU,rR,hm,hS.sl _,hO,h152,h163⟩
     rintro a Oy ⟨Z,JL,qi,HE,jw,jt,hm,hS,hO,h139,h143⟩
     unfold VC35_J4 at hm
     refine region (ePe T hS [] [(31,I (wR (iT+1)))] fun a hS=>?_)
     exact ⟨⟨qi,HE,wR (iT+1)⟩,⟨Z,_,jw,jt,hm.1,hS.sl _,hO,h139,h143⟩,hm.2⟩
    replace hm:=hm.2 hb
    refine cl (by rfl) ?_
    exact ⟨Z,_,iU,yX,lx,lr,hm,hS.sl _,hO,h132,h136⟩
   rintro a Ow ⟨Z,JK,bP,mG,gE,gC,hm,hS,hO,h126,h130⟩
   unfold VC35_J3 at hm
   refine rPe T hS [8] [(60,B (decide (mG < 0)))] fun a hS=>(aC hS (b:=decide (mG < 0)) kr (fun hb=>?_) fun hb=>?_)
   ·replace hm:=hm.1 hb
    refine rP T hS ⟨[(4,V (.slice none 0 0)),(5,B false)],[]⟩ fun a hS=>(aR ?_)
    exact fin T hS hO (fun c=>c) rfl (r:=[.slice none 0 0,.bool false]) kr (fun X' hM hC=>⟨([],false),hm,none,0,rfl,RS.empty _ _ _⟩)
   replace hm:=hm.2 hb
   refine aI (region (ePe T hS [60] [(26,I (wR (gG+1)))] fun a hS=>?_))
   exact ⟨⟨bP,wR (gG+1)⟩,⟨Z,_,gE,gC,hm.1,hS.sl _,hO,h126,h130⟩,hm.2⟩
  replace hm:=hm.2 hb
  refine cl (by rfl) ?_
  exact ⟨Z,_,HF,wT,wJ,hm,hS.sl _,hO,h124⟩
 rintro a HI ⟨Z,JJ,rH,DZ,DN,hm,hS,hO,h117⟩
 unfold VC35_J2 at hm
 refine rPe T hS [6] [(4,Sl DZ rH DN),(5,B true)] fun a hS=>(aR ?_)
 obtain ⟨yP,hE,hF⟩:=h117.freeze (by decide)
 replace hS:=hS.ev hE (cq kr)
 replace hO:=hO.m2 hE
 have h119:=hF; clear hE hF
 exact fin T hS hO (fun c=>c) rfl (r:=[.slice DZ rH.length DN,.bool true]) kr (fun X' hM hC=>⟨(rH,true),hm,DZ,DN,rfl,h119.m0 hM⟩)
theorem C35 (zU:S25) (mi:S59) (oG:S65) (Tt:S85) (v:∀ (s_:aa) (m_:List Bool),VC35 s_ m_ (fun r=>r=aq s_ m_)):S35:=fun w X s_ m_ a1 c1 h1=>mo1 (W35 zU mi oG Tt w X s_ m_ a1 c1 _ (v s_ m_) h1)
theorem W86 (FU:S68) (w0) (X0) (a_:Int) (aj:aa) (aX:List Bool) (dj:Bool) (a1) (c1) (b1) (i1) (b2) (i2) (b3) (i3) (Q:Int × Bool->Prop) (hm:VC86 a_ aj aX dj Q) (h1:RS cD w0 X0 a1 aX c1) (eO:Cell w0 X0 b1 i1 61 [ii aj.Ops,ii aj.ab]) (lz:Cell w0 X0 b2 i2 38 [.slice a1 aX.length c1]) (B6:Cell w0 X0 b3 i3 4 [.bool dj]) (hA:dL [i1,i2,i3]) :
  rt 86 #[ii a_,.pointer (some ⟨b1,0,none⟩),.pointer (some ⟨b2,0,none⟩),.pointer (some ⟨b3,0,none⟩)] (pR [i1,i2,i3]) w0 X0 (fun w X' v=>∃ r,Q r/\v=ii r.1/\Cell w X' b1 i1 61 [ii aj.Ops,ii aj.ab]/\Cell w X' b2 i2 38 [.slice a1 aX.length c1]/\Cell w X' b3 i3 4 [.bool r.2]):=by
 unfold VC86 at hm
 replace hm:=hm (h1.sm kr)
 refine fO Tryz.func86 rfl (eH (zL3d2 i1 i2 i3)) (zi3 b1 b2 b3) (args:=[I a_,Pt 901 0,Pt 902 0,Pt 903 0]) (bxs:=[(901,(61,[I aj.Ops,I aj.ab])),(902,(38,[Sl a1 aX c1])),(903,(4,[B dj]))]) kr rfl (aY.cons kr (eO.map (cr 0 hA.1 rfl)) (aY.cons kr (lz.map (cr 1 hA.1 rfl)) (aY.cons kr (B6.map (cr 2 hA.1 rfl)) aY.nil))) (fC (fun q hq=>(hA.2 q.1 (List.mem_map.2 ⟨q,hq,rfl⟩)).1)) ?_
 intro a hS hO hM
 have hP:=pn3 b1 b2 b3
 generalize (zi3 b1 b2 b3)=Z at hS hP
 clear eO lz B6
 replace h1:=h1.m0 hM
 refine rPe T hS [] [] fun a hS=>(rPe T hS [] [(6,I 0),(7,I 0)] fun a hS=>?_)
 refine cg (fun a w=>∃ Z X,∃ (dk:Int) (bE:Int),VC86_J1 dj Q dk bE/\St Tryz.f86.ntmps ⟨[(3,Pt 903 0),(6,I dk),(7,I bE)],[(901,(61,[I aj.Ops,I aj.ab])),(902,(38,[Sl a1 aX c1])),(903,(4,[B dj]))]⟩ Z a w X/\iR (eH (zL3d2 i1 i2 i3)) w0 X0 w X/\Pin [(901,b1),(902,b2),(903,b3)] Z/\RS cD w X a1 aX c1) ?_ ?_
 ·refine rPe T hS [] [(10,I aj.ab),(11,I 0)] fun a hS=>(aH ?_)
  obtain ⟨I1,μ1,cC,hm⟩:=hm
  refine cu (σ:=Int × Int × Int) (fun s a w=>∃ Z X,I1 s.1 s.2.1 s.2.2/\St Tryz.f86.ntmps ⟨[(0,I a_),(1,Pt 901 0),(2,Pt 902 0),(3,Pt 903 0),(6,I s.1),(7,I s.2.1),(10,I aj.ab),(11,I s.2.2)],[(901,(61,[I aj.Ops,I aj.ab])),(902,(38,[Sl a1 aX c1])),(903,(4,[B dj]))]⟩ Z a w X/\iR (eH (zL3d2 i1 i2 i3)) w0 X0 w X/\Pin [(901,b1),(902,b2),(903,b3)] Z/\RS cD w X a1 aX c1) (fun s=>μ1 s.1 s.2.1 s.2.2) (⟨0,0,0⟩) ?_ ?_
  ·exact ⟨Z,_,cC,hS.sl _,hO,hP,h1⟩
  rintro ⟨vC,dG,fJ⟩ a CA ⟨Z,D3,hI,hS,hO,hP,h109⟩
  replace hm:=hm vC dG fJ hI
  clear hI cC
  refine rPe T hS [] [(12,B (decide (fJ < aj.ab)))] fun a hS=>(a8 ?_)
  refine aC hS (b:=decide (fJ < aj.ab)) kr (fun hb=>?_) fun hb=>?_
  ·replace hm:=hm.1 hb
   refine aI (cg (fun a w=>∃ Z X,∃ (bZ:Int) (bO:Int),VC86_J2 I1 μ1 vC dG fJ bZ bO/\St Tryz.f86.ntmps ⟨[(0,I a_),(1,Pt 901 0),(2,Pt 902 0),(3,Pt 903 0),(6,I bZ),(7,I bO),(10,I aj.ab),(11,I fJ)],[(901,(61,[I aj.Ops,I aj.ab])),(902,(38,[Sl a1 aX c1])),(903,(4,[B dj]))]⟩ Z a w X/\iR (eH (zL3d2 i1 i2 i3)) w0 X0 w X/\Pin [(901,b1),(902,b2),(903,b3)] Z/\RS cD w X a1 aX c1) ?_ ?_)
   ·refine aH (rPe T hS [12] [(8,I fJ)] fun a hS=>?_)
    refine eT [901,902,903] mixed hS ?_
    intro xc wW hS hE hD hH
    have ⟨hO,h109⟩:=e2e hE hO.m2 h109.m1
    refine tke T [0,1,2,3] [901,902,903] hS hH #[true,true,true,true,false,false,false,false] 4 [] [(14,Sl a1 aX c1),(15,V (.agg #[ii aj.Ops,ii aj.ab])),(16,I a_),(17,I fJ)] fun a hS=>(only 4 kr (by rfl) (call hS kr kr hb68 kr (fun _ _=>rfl) (FU _ _ aj a_ fJ) ?_))
    intro v115 a EE Hk hE hp hS
    replace hO:=hO.m2 hE
    replace hD:=hD.ev hE rfl
    replace h109:=h109.m1 hE
    generalize hr:bL aj a_ fJ=jF at hp
    replace hm:=hm jF hr
    subst hp
    replace hS:=hS.sle [] [(18,I jF)]
    refine cm (br.of hS (bks:=[901,902,903]) kr hD) ?_
    intro hH
    refine tke T [5] [901,902,903] hS hH #[true,true,true,true,true,true,false,false] 2 [15,16,17,18] [(19,I (wR (jF - 1)))] fun a hS=>?_
    obtain ⟨hq,hm⟩:=hm
    refine only 6 kr (by rfl) (index (e:=4) (k:=.i64) T hS kr kr kr kr h109 kr kr hq.1 hq.2 ?_)
    intro V7 a h120 hS
    refine cm (br.of hS (bks:=[901,902,903]) kr hD) ?_
    intro hH
    refine only 7 kr (by rfl) (fc T hS kr kr kr h120 rfl kr ?_)
    intro v121 a hv hS
    cases hv
    refine cm (br.of hS (bks:=[901,902,903]) kr hD) ?_
    intro hH
    refine bn kr ?_
    replace hS:=hS.sle [14,19,20] []
    refine aC hS (b:=gi aX (wR (jF - 1))) kr (fun hb=>?_) fun hb=>?_
    ·replace hm:=hm.1 hb
     refine rPe T hS [8,21] [(6,I fJ)] fun a hS=>(region (ePe T hS [] [(7,I (wR (dG+1)))] fun a hS=>?_))
     exact ⟨Z,_,fJ,wR (dG+1),hm,hS.sl _,hO,hP,h109⟩
    replace hm:=hm.2 hb
    refine aI ?_
    exact ⟨Z,_,vC,dG,hm,hS.sl _,hO,hP,h109⟩
   rintro a HP ⟨Z,wV,bZ,bO,hm,hS,hO,hP,h112⟩
   unfold VC86_J2 at hm
   refine region (ePe T hS [] [(11,I (wR (fJ+1)))] fun a hS=>?_)
   exact ⟨⟨bZ,bO,wR (fJ+1)⟩,⟨Z,_,hm.1,hS.sl _,hO,hP,h112⟩,hm.2⟩
  replace hm:=hm.2 hb
  refine cl (by rfl) ?_
  exact ⟨Z,_,vC,dG,hm,hS.sl _,hO,hP,h109⟩
 rintro a vE ⟨Z,AO,dk,bE,hm,hS,hO,hP,h103⟩
 unfold VC86_J1 at hm
 refine rM T hS ⟨[(6,I dk)],[(901,(61,[I aj.Ops,I aj.ab])),(902,(38,[Sl a1 aX c1])),(903,(4,[B (dj && (bE == 1))]))]⟩ (sp:=[27]) fun Z a EH wX hS hE hr=>?_
 have ⟨hO,h103⟩:=e2e hE hO.m2 h103.m1
 replace hP:=hP.mv hr kr
 clear hE hr
 refine rPe T hS [6] [(5,I dk)] fun a hS=>(aR ?_)
 exact jP T hS hO (fun c h=>cw kr h) (fun c h=>cz (l:=(zL3d2 i1 i2 i3)) h) (dC (zL3d2 i1 i2 i3)) rfl (r:=[ii dk]) kr (fun X' hM hC=>⟨_,hm,rfl,((hS.cell (id:=901) (t:=61) (cs:=[I aj.Ops,I aj.ab]) kr).out (f:=(dC (zL3d2 i1 i2 i3))) hC kr kr (hP.at 0 rfl)),((hS.cell (id:=902) (t:=38) (cs:=[Sl a1 aX c1]) kr).out (f:=(dC (zL3d2 i1 i2 i3))) hC kr kr (hP.at 1 rfl)),((hS.cell (id:=903) (t:=4) (cs:=[B (dj && (bE == 1))]) kr).out (f:=(dC (zL3d2 i1 i2 i3))) hC kr kr (hP.at 2 rfl))⟩)
theorem C86 (FU:S68) (v:∀ (a_:Int) (aj:aa) (aX:List Bool) (dj:Bool),r7 a_ aj aX dj->VC86 a_ aj aX dj (fun r=>r=fa a_ aj aX dj)):S86:=fun w X a_ aj aX dj a1 c1 b1 i1 b2 i2 b3 i3 hp h1 eO lz B6 hA=>mo1 (W86 FU w X a_ aj aX dj a1 c1 b1 i1 b2 i2 b3 i3 _ (v a_ aj aX dj hp) h1 eO lz B6 hA)
theorem W69_86 (Ts:S86) (w0) (X0) (n_:Int) (aj:aa) (aX:List Bool) (dj:Bool) (a1) (c1) (b1) (i1) (b2) (i2) (b3) (i3) (Q:(List Int) × Bool->Prop) (hm:VC69_86 n_ aj aX dj Q) (h1:RS cD w0 X0 a1 aX c1) (eO:Cell w0 X0 b1 i1 61 [ii aj.Ops,ii aj.ab]) (lz:Cell w0 X0 b2 i2 38 [.slice a1 aX.length c1]) (B6:Cell w0 X0 b3 i3 4 [.bool dj]) (hA:dL [i1,i2,i3]) :
  rt 69 #[ii n_,.func (.func 86) #[] #[.pointer (some ⟨b1,0,none⟩),.pointer (some ⟨b2,0,none⟩),.pointer (some ⟨b3,0,none⟩)]] (pR [i1,i2,i3]) w0 X0 (fun w X' v=>∃ r,Q r/\∃ dg de,v=.slice dg r.1.length de/\RS tI w X' dg r.1 de/\Cell w X' b1 i1 61 [ii aj.Ops,ii aj.ab]/\Cell w X' b2 i2 38 [.slice a1 aX.length c1]/\Cell w X' b3 i3 4 [.bool r.2]):=by
 unfold VC69_86 at hm
 replace hm:=hm (h1.sm kr)
 refine fO Tryz.func69 rfl (eH (zL3d2 i1 i2 i3)) (zi3 b1 b2 b3) (args:=[I n_,.f (.func 86) [] [.p 901 0,.p 902 0,.p 903 0]]) (bxs:=[(901,(61,[I aj.Ops,I aj.ab])),(902,(38,[Sl a1 aX c1])),(903,(4,[B dj]))]) kr rfl (aY.cons kr (eO.map (cr 0 hA.1 rfl)) (aY.cons kr (lz.map (cr 1 hA.1 rfl)) (aY.cons kr (B6.map (cr 2 hA.1 rfl)) aY.nil))) (fC (fun q hq=>(hA.2 q.1 (List.mem_map.2 ⟨q,hq,rfl⟩)).1)) ?_
 intro a hS hO hM
 have hP:=pn3 b1 b2 b3
 generalize (zi3 b1 b2 b3)=Z at hS hP
 clear eO lz B6
 replace h1:=h1.m0 hM
 refine rPe T hS [] [] fun a hS=>(bk ?_)
 refine oPe T hS 1 [0] [(7,I n_)] fun a hS=>?_
 obtain ⟨hq,hm⟩:=hm
 refine op1 (make (E:=3) (kl:=.i64) (kc:=.i64) (col:=1005) (T:=tI) T 0 hS kr kr kr kr kr kr hq.1 hq.2.1 (by have:=hq.2.2; have e_:((tI.bytes:Nat):Int)=8:=rfl; rw [e_]; omega) (by have:=hq.2.2; omega) (fun _ _=>rfl) ?_)
 intro b101 a eI eN hE h104 hN hS
 clear hq hN
 have ⟨hO,h1⟩:=e2e hE hO.m2 h1.m1
 replace hS:=hS.conv (t:=8) (y:=.slice (some ⟨b101,0,none⟩) (List.replicate n_.toNat (0:Int)).length n_.toNat) kr (by rw [List.length_replicate])
 refine ePe T hS [7,8] [(5,V (.slice (some ⟨b101,0,none⟩) (List.replicate n_.toNat (0:Int)).length n_.toNat))] fun a hS=>(cg (fun a w=>∃ Z X,∃ (cN:List Int) (bZ:Bool) (dV:Option Addr) (dU:Nat),VC69_86_J1 Q cN bZ/\St Tryz.f69.ntmps ⟨[(5,Sl dV cN dU)],[(901,(61,[I aj.Ops,I aj.ab])),(902,(38,[Sl a1 aX c1])),(903,(4,[B bZ]))]⟩ Z a w X/\iR (eH (zL3d2 i1 i2 i3)) w0 X0 w X/\Pin [(901,b1),(902,b2),(903,b3)] Z/\OS tI 3 w X 1005 dV cN dU/\RS cD w X a1 aX c1) ?_ ?_)
 ·refine rPe T hS [] [(10,I (lN (List.replicate n_.toNat (0:Int)))),(11,I 0)] fun a hS=>(aH ?_)
  obtain ⟨I1,μ1,cC,hm⟩:=hm
  refine cu (σ:=(List Int) × Int × Bool) (fun s a w=>∃ Z X jM jL,I1 s.1 s.2.1 s.2.2/\St Tryz.f69.ntmps ⟨[(1,.f (.func 86) [] [.p 901 0,.p 902 0,.p 903 0]),(5,Sl jM s.1 jL),(10,I (lN (List.replicate n_.toNat (0:Int)))),(11,I s.2.1)],[(901,(61,[I aj.Ops,I aj.ab])),(902,(38,[Sl a1 aX c1])),(903,(4,[B s.2.2]))]⟩ Z a w X/\iR (eH (zL3d2 i1 i2 i3)) w0 X0 w X/\Pin [(901,b1),(902,b2),(903,b3)] Z/\OS tI 3 w X 1005 jM s.1 jL/\RS cD w X a1 aX c1) (fun s=>μ1 s.1 s.2.1 s.2.2) (⟨List.replicate n_.toNat (0:Int),0,dj⟩) ?_ ?_
  ·exact ⟨Z,_,(some ⟨b101,0,none⟩),n_.toNat,cC,hS.sl _,hO,hP,h104,h1⟩
  rintro ⟨bw,fI,cn⟩ a HO ⟨Z,JO,jM,jL,hI,hS,hO,hP,h116,h118⟩
  replace hm:=hm bw fI cn hI
  clear hI cC
  refine rPe T hS [] [(12,B (decide (fI < (lN (List.replicate n_.toNat (0:Int))))))] fun a hS=>(a8 ?_)
  refine aC hS (b:=decide (fI < (lN (List.replicate n_.toNat (0:Int))))) kr (fun hb=>?_) fun hb=>?_
  ·replace hm:=hm.1 hb
   refine aI (a8 ?_)
   refine aH (rPe T hS [12] [(6,I fI)] fun a hS=>?_)
   refine region (oPe T hS 4 [6] [(14,Sl jM bw jL),(15,I fI),(16,.f (.func 86) [] [.p 901 0,.p 902 0,.p 903 0]),(17,I fI)] fun a hS=>?_)
   obtain ⟨hq,hm⟩:=hm
   refine op1 (gJ (fi:=[]) (cp:=[.p 901 0,.p 902 0,.p 903 0]) hS kr kr hb86 kr kr (Ts _ _ fI aj aX cn a1 c1 (Z 901) 901 (Z 902) 902 (Z 903) 903 hq h118 (hS.cell (id:=901) (t:=61) (cs:=[I aj.Ops,I aj.ab]) kr) (hS.cell (id:=902) (t:=38) (cs:=[Sl a1 aX c1]) kr) (hS.cell (id:=903) (t:=4) (cs:=[B cn]) kr) ⟨by decide,by decide⟩) ?_)
   intro v120 a xa wV hE hp hS
   have ⟨hO,h116,h118⟩:=e3e hE hO.m2 h116.m2 h118.m1
   obtain ⟨hp,KL,KK,Gq⟩:=hp
   obtain ⟨bJ,hr⟩:∃ r,fa fI aj aX cn=r:=⟨_,rfl⟩
   replace hm:=hm bJ hr
   rw [hr] at hp Gq
   clear hr
   subst hp
   replace hS:=hS.cZ (id:=901) (t:=61) (cs:=[I aj.Ops,I aj.ab]) kr KL
   replace hS:=hS.cZ (id:=902) (t:=38) (cs:=[Sl a1 aX c1]) kr KK
   replace hS:=hS.cZ (id:=903) (t:=4) (cs:=[B bJ.2]) kr Gq
   clear KL KK Gq
   obtain ⟨jI,hm⟩:=hm
   refine op1 (iC (E:=3) (k:=.i64) T hS kr kr kr kr h116 kr kr jI.1 jI.2 ?_)
   intro RK a h129 h128 hS
   refine op1 (mR (x:=bJ.1) (v:=I bJ.1) (i:=fI.toNat) (E:=3) (xs:=bw) T hS kr kr kr kr h116 h129 (by have:=jI.1; have:=jI.2; omega) kr (fun _ _ _=>rfl) ?_)
   intro a yZ hE h132 hS
   clear h116 h129 h128 jI
   have ⟨hO,h118⟩:=e2e hE hO.m2 h118.m1
   replace hS:=hS.conv (t:=5) (y:=.slice jM (bw.set fI.toNat bJ.1).length jL) kr (by rw [List.length_set])
   replace hS:=hS.conv (t:=14) (y:=.slice jM (bw.set fI.toNat bJ.1).length jL) kr (by rw [List.length_set])
   refine gM (region (ePe T hS [] [(11,I (wR (fI+1)))] fun a hS=>?_))
   exact ⟨⟨(bw.set fI.toNat bJ.1),wR (fI+1),bJ.2⟩,⟨Z,_,jM,jL,hm.1,hS.sl _,hO,hP,h132,h118⟩,hm.2⟩
  replace hm:=hm.2 hb
  refine cl (by rfl) ?_
  exact ⟨Z,_,bw,cn,jM,jL,hm,hS.sl _,hO,hP,h116,h118⟩
 rintro a HN ⟨Z,Hi,cN,bZ,dV,dU,hm,hS,hO,hP,h108,h109⟩
 unfold VC69_86_J1 at hm
 refine rPe T hS [5] [(4,Sl dV cN dU)] fun a hS=>(aR ?_)
 obtain ⟨AQ,hE,hF⟩:=h108.freeze (by decide)
 replace hS:=hS.ev hE (cq kr)
 have ⟨hO,h109⟩:=e2e hE hO.m2 h109.m1
 have h112:=hF; clear hE hF
 exact jP T hS hO (fun c h=>cw kr h) (fun c h=>cz (l:=(zL3d2 i1 i2 i3)) h) (dC (zL3d2 i1 i2 i3)) rfl (r:=[.slice dV cN.length dU]) kr (fun X' hM hC=>⟨(cN,bZ),hm,dV,dU,rfl,h112.m0 hM,((hS.cell (id:=901) (t:=61) (cs:=[I aj.Ops,I aj.ab]) kr).out (f:=(dC (zL3d2 i1 i2 i3))) hC kr kr (hP.at 0 rfl)),((hS.cell (id:=902) (t:=38) (cs:=[Sl a1 aX c1]) kr).out (f:=(dC (zL3d2 i1 i2 i3))) hC kr kr (hP.at 1 rfl)),((hS.cell (id:=903) (t:=4) (cs:=[B bZ]) kr).out (f:=(dC (zL3d2 i1 i2 i3))) hC kr kr (hP.at 2 rfl))⟩)
theorem C69_86 (Ts:S86) (v:∀ (n_:Int) (aj:aa) (aX:List Bool) (dj:Bool),r8 n_ aj aX dj->VC69_86 n_ aj aX dj (fun r=>r=bF n_ aj aX dj)):S69_86:=fun w X n_ aj aX dj a1 c1 b1 i1 b2 i2 b3 i3 hp h1 eO lz B6 hA=>mo1 (W69_86 Ts w X n_ aj aX dj a1 c1 b1 i1 b2 i2 b3 i3 _ (v n_ aj aX dj hp) h1 eO lz B6 hA)
theorem W36 (zU:S25) (mi:S59) (zP:S69_86) (w0) (X0) (s_:aa) (m_:List Bool) (a1) (c1) (Q:(List Int) × Bool->Prop) (hm:VC36 s_ m_ Q) (h1:RS cD w0 X0 a1 m_ c1) :
  rt 36 #[.agg #[ii s_.Ops,ii s_.ab],.slice a1 m_.length c1] aB w0 X0 (fun w X' v=>∃ r,Q r/\∃ dg de,v=.tuple #[.slice dg r.1.length de,.bool r.2]/\RS tI w X' dg r.1 de):=by
 unfold VC36 at hm
 replace hm:=hm (h1.sm kr)
 refine enter Tryz.func36 rfl (vals:=[.agg #[ii s_.Ops,ii s_.ab],.slice a1 m_.length c1]) kr ?_
 intro Z a hS hO hM
 replace h1:=h1.m0 hM
 refine rM T hS ⟨[(2,Pt 3 0),(3,Pt 4 0)],[(3,(61,[I s_.Ops,I s_.ab])),(4,(38,[Sl a1 m_ c1]))]⟩ fun Z a vE AN hS hE hr=>?_
 have ⟨hO,h1⟩:=e2e hE hO.m2 h1.m1
 clear hE hr
 refine a8 (cg (fun a w=>∃ Z X,∃ (dk:Bool),VC36_J1 s_ m_ Q dk/\St Tryz.f36.ntmps ⟨[(2,Pt 3 0),(3,Pt 4 0),(17,B dk)],[(3,(61,[I s_.Ops,I s_.ab])),(4,(38,[Sl a1 m_ c1]))]⟩ Z a w X/\Old w0 X0 w X/\RS cD w X a1 m_ c1) ?_ ?_)
 ·refine je [3,4] mixed hS ?_
  intro CD JS hS hE hD hH
  have ⟨hO,h1⟩:=e2e hE hO.m2 h1.m1
  refine tke T [0] [3,4] hS hH #[true,false,false,false,false,false,false,false,false,false] 9 [] [(8,V (.agg #[ii s_.Ops,ii s_.ab]))] fun a hS=>(only 1 kr (by rfl) (call hS kr kr hb59 kr (fun _ _=>rfl) (mi _ _ s_) ?_))
  intro v117 a OL Hj hE hp hS
  replace hO:=hO.m2 hE
  replace hD:=hD.ev hE rfl
  replace h1:=h1.m1 hE
  generalize hr:ao s_=nJ at hp
  replace hm:=hm nJ hr
  subst hp
  replace hS:=hS.sle [] [(9,I nJ)]
  refine cm (br.of hS (bks:=[3,4]) kr hD) ?_
  intro hH
  refine tke T [2,3] [3,4] hS hH #[true,true,true,true,false,false,false,false,false,false] 6 [8,9] [(11,B (nJ != 0))] fun a hS=>?_
  rcases bft (nJ != 0) with hb | hb
  ·replace hS:=hS.lit (t:=11) kr hb
   replace hm:=hm.1 hb
   refine tke T [4,6,5,7,8,9] [3,4] hS hH (tts 10) 0 [11] [(17,B true)] fun a hS=>(bn kr ?_)
   replace hS:=hS.sle [] []
   exact ⟨Z,_,true,hm,hS.sl _,hO,h1⟩
  replace hS:=hS.lit (t:=11) kr hb
  replace hm:=hm.2 hb
  refine tke T [4,6,5] [3,4] hS hH #[true,true,true,true,true,true,true,false,false,false] 3 [] [(13,I (lN m_)),(14,V (.agg #[ii s_.Ops,ii s_.ab]))] fun a hS=>(only 7 kr (by rfl) (call hS kr kr hb25 kr (fun _ _=>rfl) (zU _ _ s_) ?_))
  intro v121 a Lx N3 hE hp hS
  replace hO:=hO.m2 hE
  replace hD:=hD.ev hE rfl
  replace h1:=h1.m1 hE
  generalize hr:aw s_=zw at hp
  replace hm:=hm zw hr
  subst hp
  replace hS:=hS.sle [] [(15,I zw)]
  refine cm (br.of hS (bks:=[3,4]) kr hD) ?_
  intro hH
  refine tke T [8,9] [3,4] hS hH (tts 10) 0 [11,13,14,15] [(17,B ((lN m_) != zw))] fun a hS=>(bn kr ?_)
  replace hS:=hS.sle [] []
  exact ⟨Z,_,((lN m_) != zw),hm,hS.sl _,hO,h1⟩
 rintro a Cz ⟨Z,D2,dk,hm,hS,hO,h102⟩
 unfold VC36_J1 at hm
 refine aC hS (b:=dk) kr (fun hb=>?_) fun hb=>?_
 ·replace hm:=hm.1 hb
  refine rP T hS ⟨[(4,V (.slice none 0 0)),(5,B false)],[]⟩ fun a hS=>(aR ?_)
  exact fin T hS hO (fun c=>c) rfl (r:=[.slice none 0 0,.bool false]) kr (fun X' hM hC=>⟨([],false),hm,none,0,rfl,RS.empty _ _ _⟩)
 replace hm:=hm.2 hb
 refine aI (rM T hS ⟨[(2,Pt 3 0),(3,Pt 4 0),(6,Pt 7 0)],[(3,(61,[I s_.Ops,I s_.ab])),(4,(38,[Sl a1 m_ c1])),(7,(4,[B true]))]⟩ fun Z a xc wW hS hE hr=>?_)
 have ⟨hO,h102⟩:=e2e hE hO.m2 h102.m1
 clear hE hr
 refine bk (oPe T hS 4 [2,3] [(20,I (wR (s_.Ops+1))),(21,.f (.func 86) [] [.p 3 0,.p 4 0,.p 7 0])] fun a hS=>?_)
 obtain ⟨hq,hm⟩:=hm
 refine op1 (pY hS kr kr hb69 kr (zP _ _ (wR (s_.Ops+1)) s_ m_ true a1 c1 (Z 3) 3 (Z 4) 4 (Z 7) 7 hq h102 (hS.cell (id:=3) (t:=61) (cs:=[I s_.Ops,I s_.ab]) kr) (hS.cell (id:=4) (t:=38) (cs:=[Sl a1 m_ c1]) kr) (hS.cell (id:=7) (t:=4) (cs:=[B true]) kr) ⟨by decide,by decide⟩) ?_)
 intro v103 a EH wX hE hp hS
 have ⟨hO,h102⟩:=e2e hE hO.m2 h102.m1
 obtain ⟨Hg,G0,hp,h109,rm,rk,u5⟩:=hp
 obtain ⟨iz,hr⟩:∃ r,bF (wR (s_.Ops+1)) s_ m_ true=r:=⟨_,rfl⟩
 replace hm:=hm iz hr
 rw [hr] at hp h109 u5
 clear hr
 subst hp
 replace hm:=hm (h109.sm kr)
 replace hS:=hS.cZ (id:=3) (t:=61) (cs:=[I s_.Ops,I s_.ab]) kr rm
 replace hS:=hS.cZ (id:=4) (t:=38) (cs:=[Sl a1 m_ c1]) kr rk
 replace hS:=hS.cZ (id:=7) (t:=4) (cs:=[B iz.2]) kr u5
 clear rm rk u5
 refine eP T hS ⟨[(6,Pt 7 0),(7,Sl Hg iz.1 G0)],[(7,(4,[B iz.2]))]⟩ fun a hS=>(a8 (rP T hS ⟨[(7,Sl Hg iz.1 G0),(24,B (!iz.2))],[]⟩ fun a hS=>?_))
 refine aC hS (b:=(!iz.2)) kr (fun hb=>?_) fun hb=>?_
 ·replace hm:=hm.1 hb
  refine rPe T hS [7,24] [(4,V (.slice none 0 0)),(5,B false)] fun a hS=>(aR ?_)
  exact fin T hS hO (fun c=>c) rfl (r:=[.slice none 0 0,.bool false]) kr (fun X' hM hC=>⟨([],false),hm,none,0,rfl,RS.empty _ _ _⟩)
 replace hm:=hm.2 hb
 refine aI (rPe T hS [7,24] [(4,Sl Hg iz.1 G0),(5,B true)] fun a hS=>?_)
 refine aR ?_
 exact fin T hS hO (fun c=>c) rfl (r:=[.slice Hg iz.1.length G0,.bool true]) kr (fun X' hM hC=>⟨(iz.1,true),hm,Hg,G0,rfl,h109.m0 hM⟩)
theorem C36 (zU:S25) (mi:S59) (zP:S69_86) (v:∀ (s_:aa) (m_:List Bool),VC36 s_ m_ (fun r=>r=aQ s_ m_)):S36:=fun w X s_ m_ a1 c1 h1=>mo1 (W36 zU mi zP w X s_ m_ a1 c1 _ (v s_ m_) h1)
theorem W126 (w0) (X0) (s_:List Int) (v_:Int) (a1) (c1) (Q:Int->Prop) (hm:VC126 s_ v_ Q) (h1:RS tI w0 X0 a1 s_ c1) :
  rt 126 #[.slice a1 s_.length c1,ii v_] aB w0 X0 (fun w X' v=>∃ r,Q r/\v=ii r):=by
 unfold VC126 at hm
 replace hm:=hm (h1.sm kr)
 refine enter Tryz.func126 rfl (vals:=[.slice a1 s_.length c1,ii v_]) kr ?_
 intro Z a hS hO hM
 replace h1:=h1.m0 hM
 refine rPe T hS [] [] fun a hS=>(cg (fun a w=>∃ Z X,VC126_J1 Q/\St Tryz.f126.ntmps ⟨[],[]⟩ Z a w X/\Old w0 X0 w X) ?_ ?_)
 ·refine rPe T hS [] [(7,I (lN s_)),(8,I 0)] fun a hS=>(aH ?_)
  obtain ⟨I1,μ1,cC,hm⟩:=hm
  refine cu (σ:=Int) (fun s a w=>∃ Z X,I1 s/\St Tryz.f126.ntmps ⟨[(0,Sl a1 s_ c1),(1,I v_),(7,I (lN s_)),(8,I s)],[]⟩ Z a w X/\Old w0 X0 w X/\RS tI w X a1 s_ c1) (fun s=>μ1 s) (0) ?_ ?_
  ·exact ⟨Z,_,cC,hS.sl _,hO,h1⟩
  rintro bE a o8 ⟨Z,oW,hI,hS,hO,h101⟩
  replace hm:=hm bE hI
  clear hI cC
  refine rPe T hS [] [(9,B (decide (bE < (lN s_))))] fun a hS=>(a8 ?_)
  refine aC hS (b:=decide (bE < (lN s_))) kr (fun hb=>?_) fun hb=>?_
  ·replace hm:=hm.1 hb
   refine aI (a8 ?_)
   refine aH (rPe T hS [9] [(5,I bE)] fun a hS=>?_)
   refine bk (oPe T hS 3 [] [(11,I v_),(12,Sl a1 s_ c1),(13,I bE)] fun a hS=>?_)
   obtain ⟨hq,hm⟩:=hm
   refine op1 (index (e:=3) (k:=.i64) T hS kr kr kr kr h101 kr kr hq.1 hq.2 ?_)
   intro Hr a h104 hS
   refine op1 (fc T hS kr kr kr h104 rfl kr ?_)
   intro v105 a hv hS
   cases hv
   refine ePe T hS [11,12,13,14,15] [(16,B (v_ == (gi s_ bE)))] fun a hS=>(aC hS (b:=(v_ == (gi s_ bE))) kr (fun hb=>?_) fun hb=>?_)
   ·replace hm:=hm.1 hb
    refine rPe T hS [0,1,5,7,8,16] [(4,I bE)] fun a hS=>(aR ?_)
    exact fin T hS hO (fun c=>c) rfl (r:=[ii bE]) kr (fun X' hM hC=>⟨_,hm,rfl⟩)
   replace hm:=hm.2 hb
   refine aI (region (ePe T hS [5,16] [(8,I (wR (bE+1)))] fun a hS=>?_))
   exact ⟨wR (bE+1),⟨Z,_,hm.1,hS.sl _,hO,h101⟩,hm.2⟩
  replace hm:=hm.2 hb
  refine cl (by rfl) ?_
  exact ⟨Z,_,hm,hS.sl _,hO⟩
 rintro a sx ⟨Z,oV,hm,hS,hO⟩
 unfold VC126_J1 at hm
 refine rPe T hS [] [(4,I (-1))] fun a hS=>(aR ?_)
 exact fin T hS hO (fun c=>c) rfl (r:=[ii (-1)]) kr (fun X' hM hC=>⟨_,hm,rfl⟩)
theorem C126 (v:∀ (s_:List Int) (v_:Int),VC126 s_ v_ (fun r=>r=c9 s_ v_)):S126:=fun w X s_ v_ a1 c1 h1=>mo1 (W126 w X s_ v_ a1 c1 _ (v s_ v_) h1)
theorem W108 (zY:S126) (w0) (X0) (s_:List Int) (v_:Int) (a1) (c1) (Q:Bool->Prop) (hm:VC108 s_ v_ Q) (h1:RS tI w0 X0 a1 s_ c1) :
  rt 108 #[.slice a1 s_.length c1,ii v_] aB w0 X0 (fun w X' v=>∃ r,Q r/\v=.bool r):=by
 unfold VC108 at hm
 replace hm:=hm (h1.sm kr)
 refine enter Tryz.func108 rfl (vals:=[.slice a1 s_.length c1,ii v_]) kr ?_
 intro Z a hS hO hM
 replace h1:=h1.m0 hM
 refine rPe T hS [] [] fun a hS=>(bk ?_)
 refine oPe T hS 2 [0,1] [(5,Sl a1 s_ c1),(6,I v_)] fun a hS=>(op1 (call hS kr kr hb126 kr (fun _ _=>rfl) (zY _ _ s_ v_ a1 c1 h1) ?_))
 intro v101 a eI eN hE hp hS
 have ⟨hO,h1⟩:=e2e hE hO.m2 h1.m1
 generalize hr:c9 s_ v_=al at hp
 replace hm:=hm al hr
 subst hp
 refine ePe T hS [5,6,7] [(4,B (decide (al≥0)))] fun a hS=>(aR ?_)
 exact fin T hS hO (fun c=>c) rfl (r:=[.bool (decide (al≥0))]) kr (fun X' hM hC=>⟨_,hm,rfl⟩)
theorem C108 (zY:S126) (v:∀ (s_:List Int) (v_:Int),VC108 s_ v_ (fun r=>r=cU s_ v_)):S108:=fun w X s_ v_ a1 c1 h1=>mo1 (W108 zY w X s_ v_ a1 c1 _ (v s_ v_) h1)
theorem W123 (Mx:S108) (w0) (X0) (l_:List ae) (order:List Int) (in_:List Bool) (a1) (c1) (a2) (c2) (a3) (c3) (Q:Bool->Prop) (hm:VC123 l_ order in_ Q) (h1:RS ar w0 X0 a1 l_ c1) (h2:RS tI w0 X0 a2 order c2) (h3:RS cD w0 X0 a3 in_ c3) :
  rt 123 #[.slice a1 l_.length c1,.slice a2 order.length c2,.slice a3 in_.length c3] aB w0 X0 (fun w X' v=>∃ r,Q r/\v=.bool r):=by
 unfold VC123 at hm
 replace hm:=hm (h1.sm kr)
 replace hm:=hm (h2.sm kr)
 replace hm:=hm (h3.sm kr)
 refine enter Tryz.func123 rfl (vals:=[.slice a1 l_.length c1,.slice a2 order.length c2,.slice a3 in_.length c3]) kr ?_
 intro Z a hS hO hM
 replace h1:=h1.m0 hM
 replace h2:=h2.m0 hM
 replace h3:=h3.m0 hM
 refine rPe T hS [] [] fun a hS=>(a8 ?_)
 refine rPe T hS [] [(20,B (((lN order) != (lN l_)) || ((lN in_) != (lN l_))))] (sp:=[14]) fun a hS=>(aC hS (b:=(((lN order) != (lN l_)) || ((lN in_) != (lN l_)))) kr (fun hb=>?_) fun hb=>?_)
 ·replace hm:=hm.1 hb
  refine rPe T hS [0,1,2,20] [(6,B false)] fun a hS=>(aR ?_)
  exact fin T hS hO (fun c=>c) rfl (r:=[.bool false]) kr (fun X' hM hC=>⟨_,hm,rfl⟩)
 replace hm:=hm.2 hb
 refine aI (cg (fun a w=>∃ Z X,VC123_J1 Q/\St Tryz.f123.ntmps ⟨[],[]⟩ Z a w X/\Old w0 X0 w X) ?_ ?_)
 ·refine rPe T hS [0,20] [(21,Sl a1 l_ c1),(22,I (lN l_)),(23,I 0)] fun a hS=>(aH ?_)
  obtain ⟨I1,μ1,cC,hm⟩:=hm
  refine cu (σ:=Int) (fun s a w=>∃ Z X,I1 s/\St Tryz.f123.ntmps ⟨[(1,Sl a2 order c2),(2,Sl a3 in_ c3),(21,Sl a1 l_ c1),(22,I (lN l_)),(23,I s)],[]⟩ Z a w X/\Old w0 X0 w X/\RS tI w X a2 order c2/\RS cD w X a3 in_ c3/\RS ar w X a1 l_ c1) (fun s=>μ1 s) (0) ?_ ?_
  ·exact ⟨Z,_,cC,hS.sl _,hO,h2,h3,h1⟩
  rintro dA a CB ⟨Z,N3,hI,hS,hO,h101,h102,h103⟩
  replace hm:=hm dA hI
  clear hI cC
  refine rPe T hS [] [(24,B (decide (dA < (lN l_))))] fun a hS=>(a8 ?_)
  refine aC hS (b:=decide (dA < (lN l_))) kr (fun hb=>?_) fun hb=>?_
  ·replace hm:=hm.1 hb
   refine aI (a8 ?_)
   refine aH (bk ?_)
   refine oPe T hS 1 [24] [(25,I dA)] fun a hS=>?_
   obtain ⟨hq,hm⟩:=hm
   refine op1 (index (e:=91) (k:=.i64) T hS kr kr kr kr h103 kr kr hq.1 hq.2 ?_)
   intro N9 a h106 hS
   refine op1 (lJ T hS kr kr kr h106 kr kr ?_)
   intro v107 a hv hS
   subst hv
   refine eM T hS ⟨[(1,Sl a2 order c2),(2,Sl a3 in_ c3),(7,I dA),(8,Pt 9 0),(21,Sl a1 l_ c1),(22,I (lN l_)),(23,I dA)],[(9,(91,[I ((gi l_ dA).Prc),I ((gi l_ dA).Kind),I ((gi l_ dA).aN),I ((gi l_ dA).End),I ((gi l_ dA).Result)]))]⟩ fun Z a xa wV hS hE hr=>?_
   have ⟨hO,h101,h102,h103⟩:=e4e hE hO.m2 h101.m1 h102.m1 h103.m1
   clear hE hr
   refine cg (fun a w=>∃ Z X,∃ (bO:Bool),VC123_J2 Q I1 μ1 dA bO/\St Tryz.f123.ntmps ⟨[(1,Sl a2 order c2),(2,Sl a3 in_ c3),(21,Sl a1 l_ c1),(22,I (lN l_)),(23,I dA),(43,B bO)],[]⟩ Z a w X/\Old w0 X0 w X/\RS tI w X a2 order c2/\RS cD w X a3 in_ c3/\RS ar w X a1 l_ c1) ?_ ?_
   ·refine region (oPe T hS 2 [] [(28,Sl a2 order c2),(29,I dA)] fun a hS=>?_)
    refine op1 (call hS kr kr hb108 kr (fun _ _=>rfl) (Mx _ _ order dA a2 c2 h101) ?_)
    intro v112 a xc wW hE hp hS
    have ⟨hO,h101,h102,h103⟩:=e4e hE hO.m2 h101.m1 h102.m1 h103.m1
    generalize hr:cU order dA=fZ at hp
    replace hm:=hm fZ hr
    subst hp
    refine oPe T hS 2 [28,29,30] [(32,B (!fZ))] fun a hS=>?_
    rcases bft (!fZ) with hb | hb
    ·replace hS:=hS.lit (t:=32) kr hb
     replace hm:=hm.1 hb
     refine eP T hS ⟨[(1,Sl a2 order c2),(2,Sl a3 in_ c3),(21,Sl a1 l_ c1),(22,I (lN l_)),(23,I dA),(43,B true)],[]⟩ fun a hS=>?_
     exact ⟨Z,_,true,hm,hS.sl _,hO,h101,h102,h103⟩
    replace hS:=hS.lit (t:=32) kr hb
    replace hm:=hm.2 hb
    refine oP T hS 4 ⟨[(1,Sl a2 order c2),(2,Sl a3 in_ c3),(7,I dA),(21,Sl a1 l_ c1),(22,I (lN l_)),(23,I dA),(32,B false),(36,B (((gi l_ dA).End) != (-1)))],[]⟩ fun a hS=>?_
    rcases bft (((gi l_ dA).End) != (-1)) with hb | hb
    ·replace hS:=hS.lit (t:=36) kr hb
     replace hm:=hm.1 hb
     refine oPe T hS 2 [7] [(37,Sl a3 in_ c3),(38,I dA)] fun a hS=>?_
     obtain ⟨hq,hm⟩:=hm
     refine op1 (index (e:=4) (k:=.i64) T hS kr kr kr kr h102 kr kr hq.1 hq.2 ?_)
     intro N8 a h117 hS
     refine op1 (fc T hS kr kr kr h117 rfl kr ?_)
     intro v118 a hv hS
     cases hv
     refine ePe T hS [32,36,37,38,39,40] [(43,B (!(gi in_ dA)))] fun a hS=>?_
     exact ⟨Z,_,(!(gi in_ dA)),hm,hS.sl _,hO,h101,h102,h103⟩
    replace hS:=hS.lit (t:=36) kr hb
    replace hm:=hm.2 hb
    refine ePe T hS [7,32,36] [(43,B false)] fun a hS=>?_
    exact ⟨Z,_,false,hm,hS.sl _,hO,h101,h102,h103⟩
   rintro a ED ⟨Z,Hj,bO,hm,hS,hO,h108,h109,h110⟩
   unfold VC123_J2 at hm
   refine aC hS (b:=bO) kr (fun hb=>?_) fun hb=>?_
   ·replace hm:=hm.1 hb
    refine rPe T hS [1,2,21,22,23,43] [(6,B false)] fun a hS=>(aR ?_)
    exact fin T hS hO (fun c=>c) rfl (r:=[.bool false]) kr (fun X' hM hC=>⟨_,hm,rfl⟩)
   replace hm:=hm.2 hb
   refine aI (region (ePe T hS [43] [(23,I (wR (dA+1)))] fun a hS=>?_))
   exact ⟨wR (dA+1),⟨Z,_,hm.1,hS.sl _,hO,h108,h109,h110⟩,hm.2⟩
  replace hm:=hm.2 hb
  refine cl (by rfl) ?_
  exact ⟨Z,_,hm,hS.sl _,hO⟩
 rintro a Cz ⟨Z,D2,hm,hS,hO⟩
 unfold VC123_J1 at hm
 refine rPe T hS [] [(6,B true)] fun a hS=>(aR ?_)
 exact fin T hS hO (fun c=>c) rfl (r:=[.bool true]) kr (fun X' hM hC=>⟨_,hm,rfl⟩)
theorem C123 (Mx:S108) (v:∀ (l_:List ae) (order:List Int) (in_:List Bool),VC123 l_ order in_ (fun r=>r=dZ l_ order in_)):S123:=fun w X l_ order in_ a1 c1 a2 c2 a3 c3 h1 h2 h3=>mo1 (W123 Mx w X l_ order in_ a1 c1 a2 c2 a3 c3 _ (v l_ order in_) h1 h2 h3)
theorem W124 (L3:S72) (w0) (X0) (o_:ah) (x_:ae) (state:Int) (a1) (c1) (Q:Int × Bool->Prop) (hm:VC124 o_ x_ state Q) (h1:RS aF w0 X0 a1 o_.Rows c1) :
  rt 124 #[.agg #[ii o_.ab,ii o_.aP,ii o_.aU,.slice a1 o_.Rows.length c1],.agg #[ii x_.Prc,ii x_.Kind,ii x_.aN,ii x_.End,ii x_.Result],ii state] aB w0 X0 (fun w X' v=>∃ r,Q r/\v=.tuple #[ii r.1,.bool r.2]):=by
 unfold VC124 at hm
 replace hm:=hm (h1.sm kr)
 refine enter Tryz.func124 rfl (vals:=[.agg #[ii o_.ab,ii o_.aP,ii o_.aU,.slice a1 o_.Rows.length c1],.agg #[ii x_.Prc,ii x_.Kind,ii x_.aN,ii x_.End,ii x_.Result],ii state]) kr ?_
 intro Z a hS hO hM
 replace h1:=h1.m0 hM
 refine rM T hS ⟨[(2,I state),(3,Pt 4 0),(4,Pt 5 0)],[(4,(24,(cO o_ a1 c1))),(5,(91,[I x_.Prc,I x_.Kind,I x_.aN,I x_.End,I x_.Result]))]⟩ fun Z a qj oW hS hE hr=>?_
 have ⟨hO,h1⟩:=e2e hE hO.m2 h1.m1
 clear hE hr
 refine bk (oP T hS 4 ⟨[(9,V (.agg #[ii o_.ab,ii o_.aP,ii o_.aU,.slice a1 o_.Rows.length c1])),(10,V (.agg #[ii x_.Prc,ii x_.Kind,ii x_.aN,ii x_.End,ii x_.Result])),(11,I state)],[]⟩ fun a hS=>?_)
 refine op1 (call hS kr kr hb72 kr (fun _ _=>rfl) (L3 _ _ (⟨o_⟩:eF) x_ state a1 c1 h1) ?_)
 intro v101 a eI eN hE hp hS
 have ⟨hO,h1⟩:=e2e hE hO.m2 h1.m1
 generalize hr:dI (⟨o_⟩:eF) x_ state=al at hp
 replace hm:=hm al hr
 subst hp
 refine ePe T hS [9,10,11,12] [(6,I al.1),(7,B al.2)] fun a hS=>(aR ?_)
 exact fin T hS hO (fun c=>c) rfl (r:=[ii al.1,.bool al.2]) kr (fun X' hM hC=>⟨_,hm,rfl⟩)
theorem C124 (L3:S72) (v:∀ (o_:ah) (x_:ae) (state:Int),VC124 o_ x_ state (fun r=>r=jq o_ x_ state)):S124:=fun w X o_ x_ state a1 c1 h1=>mo1 (W124 L3 w X o_ x_ state a1 c1 _ (v o_ x_ state) h1)
theorem W83 (Mn:S123) (Mm:S124) (wo:S34) (mi:S59) (w0) (X0) (o_:ah) (l_:List ae) (order:List Int) (in_:List Bool) (a1) (c1) (a2) (c2) (a3) (c3) (a4) (c4) (Q:(List Int) × Bool->Prop) (hm:VC83 o_ l_ order in_ Q) (h1:RS aF w0 X0 a1 o_.Rows c1) (h2:RS ar w0 X0 a2 l_ c2) (h3:RS tI w0 X0 a3 order c3) (h4:RS cD w0 X0 a4 in_ c4) :
  rt 83 #[.agg #[ii o_.ab,ii o_.aP,ii o_.aU,.slice a1 o_.Rows.length c1],.slice a2 l_.length c2,.slice a3 order.length c3,.slice a4 in_.length c4] aB w0 X0 (fun w X' v=>∃ r,Q r/\∃ dg de,v=.tuple #[.slice dg r.1.length de,.bool r.2]/\RS tI w X' dg r.1 de):=by
 unfold VC83 at hm
 replace hm:=hm (h1.sm kr)
 replace hm:=hm (h2.sm kr)
 replace hm:=hm (h3.sm kr)
 replace hm:=hm (h4.sm kr)
 refine enter Tryz.func83 rfl (vals:=[.agg #[ii o_.ab,ii o_.aP,ii o_.aU,.slice a1 o_.Rows.length c1],.slice a2 l_.length c2,.slice a3 order.length c3,.slice a4 in_.length c4]) kr ?_
 intro Z a hS hO hM
 replace h1:=h1.m0 hM
 replace h2:=h2.m0 hM
 replace h3:=h3.m0 hM
 replace h4:=h4.m0 hM
 refine rM T hS ⟨[(1,Sl a2 l_ c2),(2,Sl a3 order c3),(3,Sl a4 in_ c4),(4,Pt 5 0)],[(5,(24,(cO o_ a1 c1)))]⟩ fun Z a HH NR hS hE hr=>?_
 have ⟨hO,h1,h2,h3,h4⟩:=e5e hE hO.m2 h1.m1 h2.m1 h3.m1 h4.m1
 clear hE hr
 refine a8 (cg (fun a w=>∃ Z X,∃ (dA:Bool),VC83_J1 o_ l_ order in_ Q dA/\St Tryz.f83.ntmps ⟨[(1,Sl a2 l_ c2),(2,Sl a3 order c3),(3,Sl a4 in_ c4),(4,Pt 5 0),(27,B dA)],[(5,(24,(cO o_ a1 c1)))]⟩ Z a w X/\Old w0 X0 w X/\RS ar w X a2 l_ c2/\RS tI w X a3 order c3/\RS cD w X a4 in_ c4/\RS aF w X a1 o_.Rows c1) ?_ ?_)
 ·refine region (oPe T hS 2 [] [(16,V (.agg #[ii o_.ab,ii o_.aP,ii o_.aU,.slice a1 o_.Rows.length c1])),(17,Sl a2 l_ c2)] fun a hS=>?_)
  obtain ⟨hq,hm⟩:=hm
  refine op1 (call hS kr kr hb34 kr (fun _ _=>rfl) (wo _ _ o_ l_ a1 c1 a2 c2 hq h1 h2) ?_)
  intro v169 a Oz JL hE hp hS
  have ⟨hO,h1,h2,h3,h4⟩:=e5e hE hO.m2 h1.m1 h2.m1 h3.m1 h4.m1
  generalize hr:au o_ l_=kH at hp
  replace hm:=hm kH hr
  subst hp
  refine op1 (call hS kr kr hb59 kr (fun _ _=>rfl) (mi _ _ kH) ?_)
  intro v173 a HK JK hE hp hS
  have ⟨hO,h1,h2,h3,h4⟩:=e5e hE hO.m2 h1.m1 h2.m1 h3.m1 h4.m1
  generalize hr:ao kH=zq at hp
  replace hm:=hm zq hr
  subst hp
  refine oPe T hS 2 [16,17,18,19] [(21,B (zq != 0))] fun a hS=>?_
  rcases bft (zq != 0) with hb | hb
  ·replace hS:=hS.lit (t:=21) kr hb
   replace hm:=hm.1 hb
   refine ePe T hS [21] [(27,B true)] fun a hS=>?_
   exact ⟨Z,_,true,hm,hS.sl _,hO,h2,h3,h4,h1⟩
  replace hS:=hS.lit (t:=21) kr hb
  replace hm:=hm.2 hb
  refine oPe T hS 3 [] [(22,Sl a2 l_ c2),(23,Sl a3 order c3),(24,Sl a4 in_ c4)] fun a hS=>(op1 (call hS kr kr hb123 kr (fun _ _=>rfl) (Mn _ _ l_ order in_ a2 c2 a3 c3 a4 c4 h2 h3 h4) ?_))
  intro v177 a HJ JJ hE hp hS
  have ⟨hO,h1,h2,h3,h4⟩:=e5e hE hO.m2 h1.m1 h2.m1 h3.m1 h4.m1
  generalize hr:dZ l_ order in_=CT at hp
  replace hm:=hm CT hr
  subst hp
  refine ePe T hS [21,22,23,24,25] [(27,B (!CT))] fun a hS=>?_
  exact ⟨Z,_,(!CT),hm,hS.sl _,hO,h2,h3,h4,h1⟩
 rintro a Ln ⟨Z,JI,dA,hm,hS,hO,h101,h102,h103,h105⟩
 unfold VC83_J1 at hm
 refine aC hS (b:=dA) kr (fun hb=>?_) fun hb=>?_
 ·replace hm:=hm.1 hb
  refine rP T hS ⟨[(8,V (.slice none 0 0)),(9,B false)],[]⟩ fun a hS=>(aR ?_)
  exact fin T hS hO (fun c=>c) rfl (r:=[.slice none 0 0,.bool false]) kr (fun X' hM hC=>⟨([],false),hm,none,0,rfl,RS.empty _ _ _⟩)
 replace hm:=hm.2 hb
 refine aI (bk ?_)
 refine oPe T hS 2 [27] [(29,I o_.aU)] fun a hS=>(op1 (lit (E:=3) (col:=1009) (T:=tI) (vals:=[ii o_.aU]) (ys:=[o_.aU]) T hS kr kr kr kr (by exact ⟨rfl,trivial⟩) rfl kr kr kr kr ?_))
 intro b106 a o8 oV hE h109 hN hS
 clear hN
 have ⟨hO,h101,h102,h103,h105⟩:=e5e hE hO.m2 h101.m1 h102.m1 h103.m1 h105.m1
 refine ePe T hS [29,30] [(10,Sl (some ⟨b106,0,none⟩) [o_.aU] 1)] fun a hS=>(cg (fun a w=>∃ Z X,∃ (bZ:List Int) (wU:Option Addr) (wK:Nat),VC83_J2 Q bZ/\St Tryz.f83.ntmps ⟨[(10,Sl wU bZ wK)],[]⟩ Z a w X/\Old w0 X0 w X/\OS tI 3 w X 1009 wU bZ wK) ?_ ?_)
 ·refine rPe T hS [2] [(31,Sl a3 order c3),(32,I (lN order)),(33,I 0)] fun a hS=>(aH ?_)
  obtain ⟨I1,μ1,cC,hm⟩:=hm
  refine cu (σ:=(List Int) × Int) (fun s a w=>∃ Z X AK Az,I1 s.1 s.2/\St Tryz.f83.ntmps ⟨[(1,Sl a2 l_ c2),(3,Sl a4 in_ c4),(4,Pt 5 0),(10,Sl AK s.1 Az),(31,Sl a3 order c3),(32,I (lN order)),(33,I s.2)],[(5,(24,(cO o_ a1 c1)))]⟩ Z a w X/\Old w0 X0 w X/\RS ar w X a2 l_ c2/\RS cD w X a4 in_ c4/\OS tI 3 w X 1009 AK s.1 Az/\RS tI w X a3 order c3/\RS aF w X a1 o_.Rows c1) (fun s=>μ1 s.1 s.2) (⟨[o_.aU],0⟩) ?_ ?_
  ·exact ⟨Z,_,(some ⟨b106,0,none⟩),1,cC,hS.sl _,hO,h101,h103,h109,h102,h105⟩
  rintro ⟨dM,gz⟩ a OC ⟨Z,VI,AK,Az,hI,hS,hO,h116,h117,h121,h122,h124⟩
  replace hm:=hm dM gz hI
  clear hI cC
  refine rPe T hS [] [(34,B (decide (gz < (lN order))))] fun a hS=>(a8 ?_)
  refine aC hS (b:=decide (gz < (lN order))) kr (fun hb=>?_) fun hb=>?_
  ·replace hm:=hm.1 hb
   refine aI (a8 ?_)
   refine aH (bk ?_)
   obtain ⟨hq,hm⟩:=hm
   refine op1 (index (e:=3) (k:=.i64) T hS kr kr kr kr h122 kr kr hq.1 hq.2 ?_)
   intro adb a h126 hS
   refine op1 (fc T hS kr kr kr h126 rfl kr ?_)
   intro v127 a hv hS
   cases hv
   refine ePe T hS [34,35,36] [(12,I (gi order gz))] fun a hS=>(bk ?_)
   refine oPe T hS 4 [] [(37,Sl AK dM Az),(40,I (wR ((lN dM) - 1)))] fun a hS=>?_
   obtain ⟨Kn,hm⟩:=hm
   refine op1 (iC (E:=3) (k:=.i64) T hS kr kr kr kr h121 kr kr Kn.1 Kn.2 ?_)
   intro ada a h130 h129 hS
   refine op1 (tl T hS kr kr kr h129 rfl kr ?_)
   intro v132 a hv hS
   cases hv
   refine ePe T hS [37,40,41,42] [(13,I (gi dM (wR ((lN dM) - 1))))] fun a hS=>(cg (fun a w=>∃ Z X,∃ (lB:List Int) (h8:Int) (qd:Option Addr) (p8:Nat),VC83_J3 I1 μ1 dM gz lB h8/\St Tryz.f83.ntmps ⟨[(1,Sl a2 l_ c2),(3,Sl a4 in_ c4),(4,Pt 5 0),(10,Sl qd lB p8),(13,I h8),(31,Sl a3 order c3),(32,I (lN order)),(33,I gz)],[(5,(24,(cO o_ a1 c1)))]⟩ Z a w X/\Old w0 X0 w X/\RS ar w X a2 l_ c2/\RS cD w X a4 in_ c4/\OS tI 3 w X 1009 qd lB p8/\RS tI w X a3 order c3/\RS aF w X a1 o_.Rows c1) ?_ ?_)
   ·refine bk (oPe T hS 2 [] [(43,Sl a4 in_ c4),(44,I (gi order gz))] fun a hS=>?_)
    obtain ⟨hq,hm⟩:=hm
    refine op1 (index (e:=4) (k:=.i64) T hS kr kr kr kr h117 kr kr hq.1 hq.2 ?_)
    intro V4 a h152 hS
    refine op1 (fc T hS kr kr kr h152 rfl kr ?_)
    intro v153 a hv hS
    cases hv
    refine gM (aC hS (b:=gi in_ (gi order gz)) kr (fun hb=>?_) fun hb=>?_)
    ·replace hm:=hm.1 hb
     refine eT [5] mixed hS ?_
     intro Cw D1 hS hE hD hH
     have ⟨hO,h116,h117,h121,h122,h124⟩:=e6e hE hO.m2 h116.m1 h117.m1 h121.m2 h122.m1 h124.m1
     refine tke T [0,1,2,5] [5] hS hH #[true,true,true,false,false,true,false,false,false,false,false,false] 8 [12,13] [(48,V (.agg #[ii o_.ab,ii o_.aP,ii o_.aU,.slice a1 o_.Rows.length c1])),(49,Sl a2 l_ c2),(50,I (gi order gz)),(53,I (gi dM (wR ((lN dM) - 1))))] fun a hS=>?_
     obtain ⟨hq,hm⟩:=hm
     refine eY (e:=91) (k:=.i64) T 3 hS kr kr kr (by rfl) kr hH kr kr h116 kr kr hq.1 hq.2 ?_
     intro RJ a h157 hS
     have Gy:=h157.here
     refine qO T 4 hS kr kr kr (by rfl) kr hH kr h157 Gy kr kr ?_
     intro v158 a hv hS
     subst hv
     refine only 6 kr (by rfl) (call hS kr kr hb124 kr (fun _ _=>rfl) (Mm _ _ o_ (gi l_ (gi order gz)) (gi dM (wR ((lN dM) - 1))) a1 c1 h124) ?_)
     intro v159 a Cv JM hE hp hS
     replace hO:=hO.m2 hE
     replace hD:=hD.ev hE rfl
     have ⟨h116,h117,h121,h122,h124,h157⟩:=e6e hE h116.m1 h117.m1 h121.m2 h122.m1 h124.m1 h157.m1
     generalize hr:jq o_ (gi l_ (gi order gz)) (gi dM (wR ((lN dM) - 1)))=jS at hp
     replace hm:=hm jS hr
     subst hp
     replace hS:=hS.sle [] [(54,V (.tuple #[ii jS.1,.bool jS.2]))]
     refine cm (br.of hS (bks:=[5]) kr hD) ?_
     intro hH
     refine tke T [7,8,9,10,11] [5] hS hH (tts 12) 0 [48,49,50,53,51,52,54] [(14,I jS.1),(15,B jS.2)] fun a hS=>(bn kr ?_)
     replace hS:=hS.sle [] []
     refine a8 (rPe T hS [15] [(58,B (!jS.2))] fun a hS=>?_)
     refine aC hS (b:=(!jS.2)) kr (fun hb=>?_) fun hb=>?_
     ·replace hm:=hm.1 hb
      refine rP T hS ⟨[(8,V (.slice none 0 0)),(9,B false)],[]⟩ fun a hS=>(aR ?_)
      exact fin T hS hO (fun c=>c) rfl (r:=[.slice none 0 0,.bool false]) kr (fun X' hM hC=>⟨([],false),hm,none,0,rfl,RS.empty _ _ _⟩)
     replace hm:=hm.2 hb
     refine aI (region (ePe T hS [14,58] [(13,I jS.1)] fun a hS=>?_))
     exact ⟨Z,_,dM,jS.1,AK,Az,hm,hS.sl _,hO,h116,h117,h121,h122,h124⟩
    replace hm:=hm.2 hb
    refine aI ?_
    exact ⟨Z,_,dM,gi dM (wR ((lN dM) - 1)),AK,Az,hm,hS.sl _,hO,h116,h117,h121,h122,h124⟩
   rintro a SO ⟨Z,Rw,lB,h8,qd,p8,hm,hS,hO,h133,h134,h138,h140,h141⟩
   unfold VC83_J3 at hm
   refine region (oPe T hS 2 [13] [(60,Sl qd lB p8),(61,I h8)] fun a hS=>?_)
   refine op1 (lit (E:=3) (col:=0) (T:=tI) (vals:=[ii h8]) (ys:=[h8]) T hS kr kr kr kr (by exact ⟨rfl,trivial⟩) rfl kr kr kr kr ?_)
   intro b142 a OH VN hE h145 hN hS
   clear hN
   have ⟨hO,h133,h134,h138,h140,h141⟩:=e6e hE hO.m2 h133.m1 h134.m1 h138.m2 h140.m1 h141.m1
   replace h145:=h145.rs0
   obtain ⟨hq,hm⟩:=hm
   obtain ⟨news,hN⟩:=h145.src
   refine op1 (append (E:=3) (T:=tI) (col:=1009) (xs:=lB) T hS kr kr kr kr h138 hN kr kr kr kr hq ?_)
   intro AI Ax a EB NX hE h148 hS
   clear hq hN
   clear h138
   have ⟨hO,h133,h134,h140,h141,h145⟩:=e6e hE hO.m2 h133.m1 h134.m1 h140.m1 h141.m1 h145.m1
   refine ePe T hS [61,62,63] [(10,Sl AI (lB++[h8]) Ax)] fun a hS=>(region (ePe T hS [] [(33,I (wR (gz+1)))] fun a hS=>?_))
   exact ⟨⟨lB++[h8],wR (gz+1)⟩,⟨Z,_,AI,Ax,hm.1,hS.sl _,hO,h133,h134,h148,h140,h141⟩,hm.2⟩
  replace hm:=hm.2 hb
  refine cl (by rfl) ?_
  exact ⟨Z,_,dM,AK,Az,hm,hS.sl _,hO,h121⟩
 rintro a OB ⟨Z,NS,bZ,wU,wK,hm,hS,hO,h113⟩
 unfold VC83_J2 at hm
 refine rPe T hS [10] [(8,Sl wU bZ wK),(9,B true)] fun a hS=>(aR ?_)
 obtain ⟨wW,hE,hF⟩:=h113.freeze (by decide)
 replace hS:=hS.ev hE (cq kr)
 replace hO:=hO.m2 hE
 have h115:=hF; clear hE hF
 exact fin T hS hO (fun c=>c) rfl (r:=[.slice wU bZ.length wK,.bool true]) kr (fun X' hM hC=>⟨(bZ,true),hm,wU,wK,rfl,h115.m0 hM⟩)
theorem C83 (Mn:S123) (Mm:S124) (wo:S34) (mi:S59) (v:∀ (o_:ah) (l_:List ae) (order:List Int) (in_:List Bool),Bp o_ l_ order in_->VC83 o_ l_ order in_ (fun r=>r=b6 o_ l_ order in_)):S83:=fun w X o_ l_ order in_ a1 c1 a2 c2 a3 c3 a4 c4 hp h1 h2 h3 h4=>mo1 (W83 Mn Mm wo mi w X o_ l_ order in_ a1 c1 a2 c2 a3 c3 a4 c4 _ (v o_ l_ order in_ hp) h1 h2 h3 h4)
theorem W125 (zY:S126) (w0) (X0) (x_:Int) (aj:List Int) (a1) (c1) (b1) (i1) (Q:Int->Prop) (hm:VC125 x_ aj Q) (h1:RS tI w0 X0 a1 aj c1) (eO:Cell w0 X0 b1 i1 79 [.slice a1 aj.length c1]) (hA:dL [i1]) :
  rt 125 #[ii x_,.pointer (some ⟨b1,0,none⟩)] (pR [i1]) w0 X0 (fun w X' v=>∃ r,Q r/\v=ii r/\Cell w X' b1 i1 79 [.slice a1 aj.length c1]):=by
 unfold VC125 at hm
 replace hm:=hm (h1.sm kr)
 refine fO Tryz.func125 rfl (eH [(i1,901)]) (zi1 b1) (args:=[I x_,Pt 901 0]) (bxs:=[(901,(79,[Sl a1 aj c1]))]) kr rfl (aY.cons kr (eO.map (cr 0 hA.1 rfl)) aY.nil) (fC (fun q hq=>(hA.2 q.1 (List.mem_map.2 ⟨q,hq,rfl⟩)).1)) ?_
 intro a hS hO hM
 have hP:=pn1 b1
 generalize (zi1 b1)=Z at hS hP
 clear eO
 replace h1:=h1.m0 hM
 refine rPe T hS [] [] fun a hS=>(bk ?_)
 refine oPe T hS 2 [0,1] [(4,Sl a1 aj c1),(5,I x_)] fun a hS=>(op1 (call hS kr kr hb126 kr (fun _ _=>rfl) (zY _ _ aj x_ a1 c1 h1) ?_))
 intro v101 a eI eN hE hp hS
 have ⟨hO,h1⟩:=e2e hE hO.m2 h1.m1
 generalize hr:c9 aj x_=al at hp
 replace hm:=hm al hr
 subst hp
 refine ePe T hS [4,5,6] [(3,I al)] fun a hS=>(aR ?_)
 exact jP T hS hO (fun c h=>cw kr h) (fun c h=>cz (l:=[(i1,901)]) h) (dC [(i1,901)]) rfl (r:=[ii al]) kr (fun X' hM hC=>⟨_,hm,rfl,((hS.cell (id:=901) (t:=79) (cs:=[Sl a1 aj c1]) kr).out (f:=(dC [(i1,901)])) hC kr kr (hP.at 0 rfl))⟩)
theorem C125 (zY:S126) (v:∀ (x_:Int) (aj:List Int),VC125 x_ aj (fun r=>r=cS x_ aj)):S125:=fun w X x_ aj a1 c1 b1 i1 h1 eO hA=>mo1 (W125 zY w X x_ aj a1 c1 b1 i1 _ (v x_ aj) h1 eO hA)
theorem W84 (ID:S125) (w0) (X0) (order:List Int) (aJ:List (Int × Int)) (a1) (c1) (a2) (c2) (Q:Int × Bool->Prop) (hm:VC84 order aJ Q) (h1:RS tI w0 X0 a1 order c1) (h2:RS tP2 w0 X0 a2 aJ c2) :
  rt 84 #[.slice a1 order.length c1,.slice a2 aJ.length c2] aB w0 X0 (fun w X' v=>∃ r,Q r/\v=.tuple #[ii r.1,.bool r.2]):=by
 unfold VC84 at hm
 replace hm:=hm (h1.sm kr)
 replace hm:=hm (h2.sm kr)
 refine enter Tryz.func84 rfl (vals:=[.slice a1 order.length c1,.slice a2 aJ.length c2]) kr ?_
 intro Z a hS hO hM
 replace h1:=h1.m0 hM
 replace h2:=h2.m0 hM
 refine rM T hS ⟨[(1,Sl a2 aJ c2),(2,Pt 3 0)],[(3,(79,[Sl a1 order c1]))]⟩ fun Z a vE AN hS hE hr=>?_
 have ⟨hO,h1,h2⟩:=e3e hE hO.m2 h1.m1 h2.m1
 clear hE hr
 refine rPe T hS [2] [(6,.f (.func 125) [] [.p 3 0])] fun a hS=>(cg (fun a w=>∃ Z X,VC84_J1 aJ Q/\St Tryz.f84.ntmps ⟨[(1,Sl a2 aJ c2)],[]⟩ Z a w X/\Old w0 X0 w X/\RS tP2 w X a2 aJ c2) ?_ ?_)
 ·refine rPe T hS [] [(12,Sl a2 aJ c2),(13,I (lN aJ)),(14,I 0)] fun a hS=>(aH ?_)
  obtain ⟨I1,μ1,cC,hm⟩:=hm
  refine cu (σ:=Int) (fun s a w=>∃ Z X,I1 s/\St Tryz.f84.ntmps ⟨[(1,Sl a2 aJ c2),(6,.f (.func 125) [] [.p 3 0]),(12,Sl a2 aJ c2),(13,I (lN aJ)),(14,I s)],[(3,(79,[Sl a1 order c1]))]⟩ Z a w X/\Old w0 X0 w X/\RS tP2 w X a2 aJ c2/\RS tP2 w X a2 aJ c2/\RS tI w X a1 order c1) (fun s=>μ1 s) (0) ?_ ?_
  ·exact ⟨Z,_,cC,hS.sl _,hO,h2,h2,h1⟩
  rintro dA a CB ⟨Z,N3,hI,hS,hO,h102,h103,h105⟩
  replace hm:=hm dA hI
  clear hI cC
  refine rPe T hS [] [(15,B (decide (dA < (lN aJ))))] fun a hS=>(a8 ?_)
  refine aC hS (b:=decide (dA < (lN aJ))) kr (fun hb=>?_) fun hb=>?_
  ·replace hm:=hm.1 hb
   refine aI (a8 ?_)
   refine aH (bk ?_)
   refine oPe T hS 1 [15] [(16,I dA)] fun a hS=>?_
   obtain ⟨hq,hm⟩:=hm
   refine op1 (index (e:=142) (k:=.i64) T hS kr kr kr kr h103 kr kr hq.1 hq.2 ?_)
   intro RQ a h107 hS
   refine op1 (lJ T hS kr kr kr h107 kr kr ?_)
   intro v108 a hv hS
   subst hv
   refine eM T hS ⟨[(1,Sl a2 aJ c2),(6,.f (.func 125) [] [.p 3 0]),(7,I dA),(8,Pt 9 0),(12,Sl a2 aJ c2),(13,I (lN aJ)),(14,I dA)],[(3,(79,[Sl a1 order c1])),(9,(142,[I ((gi aJ dA).1),I ((gi aJ dA).2)]))]⟩ fun Z a xa wV hS hE hr=>?_
   have ⟨hO,h102,h103,h105⟩:=e4e hE hO.m2 h102.m1 h103.m1 h105.m1
   clear hE hr
   refine eT [3,9] mixed hS ?_
   intro sx um hS hE hD hH
   have ⟨hO,h102,h103,h105⟩:=e4e hE hO.m2 h102.m1 h103.m1 h105.m1
   refine tke T [0,1,4,5,2,6] [3,9] hS hH #[true,true,true,false,true,true,true,false,false,false] 4 [8] [(19,.f (.func 125) [] [.p 3 0]),(21,I ((gi aJ dA).1)),(23,.f (.func 125) [] [.p 3 0]),(25,I ((gi aJ dA).2))] fun a hS=>(only 3 kr (by rfl) (gJ (fi:=[]) (cp:=[.p 3 0]) hS kr kr hb125 kr kr (ID _ _ ((gi aJ dA).1) order a1 c1 (Z 3) 3 h105 (hS.cell (id:=3) (t:=79) (cs:=[Sl a1 order c1]) kr) ⟨by decide,by decide⟩) ?_))
   intro v111 a EF AP hE hp hS
   replace hO:=hO.m2 hE
   replace hD:=hD.ev hE rfl
   have ⟨h102,h103,h105⟩:=e3e hE h102.m1 h103.m1 h105.m1
   obtain ⟨hp,KN⟩:=hp
   generalize hr:cS ((gi aJ dA).1) order=fR at hp
   replace hm:=hm fR hr
   subst hp
   replace hS:=hS.cZ (id:=3) (t:=79) (cs:=[Sl a1 order c1]) kr KN
   clear KN
   replace hS:=hS.sle [] [(22,I fR)]
   refine cm (br.of hS (bks:=[3,9]) kr hD) ?_
   intro hH
   refine only 7 kr (by rfl) (gJ (fi:=[]) (cp:=[.p 3 0]) hS kr kr hb125 kr kr (ID _ _ ((gi aJ dA).2) order a1 c1 (Z 3) 3 h105 (hS.cell (id:=3) (t:=79) (cs:=[Sl a1 order c1]) kr) ⟨by decide,by decide⟩) ?_)
   intro v116 a y5 yP hE hp hS
   replace hO:=hO.m2 hE
   replace hD:=hD.ev hE rfl
   have ⟨h102,h103,h105⟩:=e3e hE h102.m1 h103.m1 h105.m1
   obtain ⟨hp,ya⟩:=hp
   generalize hr:cS ((gi aJ dA).2) order=cY at hp
   replace hm:=hm cY hr
   subst hp
   replace hS:=hS.cZ (id:=3) (t:=79) (cs:=[Sl a1 order c1]) kr ya
   clear ya
   replace hS:=hS.sle [] [(26,I cY)]
   refine cm (br.of hS (bks:=[3,9]) kr hD) ?_
   intro hH
   refine tke T [8,9] [3,9] hS hH (tts 10) 0 [19,21,23,25,22,26] [(9,I fR),(10,I cY)] fun a hS=>(bn kr ?_)
   replace hS:=hS.sl ⟨[(1,Sl a2 aJ c2),(6,.f (.func 125) [] [.p 3 0]),(7,I dA),(9,I fR),(10,I cY),(12,Sl a2 aJ c2),(13,I (lN aJ)),(14,I dA)],[(3,(79,[Sl a1 order c1]))]⟩
   refine rPe T hS [9,10] [(37,B (((decide (fR≥0)) && (decide (cY≥0))) && (decide (cY < fR))))] (sp:=[29,33]) fun a hS=>(aC hS (b:=(((decide (fR≥0)) && (decide (cY≥0))) && (decide (cY < fR)))) kr (fun hb=>?_) fun hb=>?_)
   ·replace hm:=hm.1 hb
    refine rP T hS ⟨[(4,I dA),(5,B false)],[]⟩ fun a hS=>(aR ?_)
    exact fin T hS hO (fun c=>c) rfl (r:=[ii dA,.bool false]) kr (fun X' hM hC=>⟨_,hm,rfl⟩)
   replace hm:=hm.2 hb
   refine aI (region (ePe T hS [7,37] [(14,I (wR (dA+1)))] fun a hS=>?_))
   exact ⟨wR (dA+1),⟨Z,_,hm.1,hS.sl _,hO,h102,h103,h105⟩,hm.2⟩
  replace hm:=hm.2 hb
  refine cl (by rfl) ?_
  exact ⟨Z,_,hm,hS.sl _,hO,h102⟩
 rintro a Cz ⟨Z,D2,hm,hS,hO,h101⟩
 unfold VC84_J1 at hm
 refine rPe T hS [1] [(4,I (lN aJ)),(5,B true)] fun a hS=>(aR ?_)
 exact fin T hS hO (fun c=>c) rfl (r:=[ii (lN aJ),.bool true]) kr (fun X' hM hC=>⟨_,hm,rfl⟩)
theorem C84 (ID:S125) (v:∀ (order:List Int) (aJ:List (Int × Int)),VC84 order aJ (fun r=>r=di order aJ)):S84:=fun w X order aJ a1 c1 a2 c2 h1 h2=>mo1 (W84 ID w X order aJ a1 c1 a2 c2 _ (v order aJ) h1 h2)
theorem W33 (Md:S18) (Di:S22) (L9:S35) (L8:S36) (oG:S65) (Tv:S83) (Tu:S84) (w0) (X0) (o_:ah) (l_:List ae) (m_:List Bool) (a1) (c1) (a2) (c2) (a3) (c3) (Q:Bool->Prop) (hm:VC33 o_ l_ m_ Q) (h1:RS aF w0 X0 a1 o_.Rows c1) (h2:RS ar w0 X0 a2 l_ c2) (h3:RS cD w0 X0 a3 m_ c3) :
  rt 33 #[.agg #[ii o_.ab,ii o_.aP,ii o_.aU,.slice a1 o_.Rows.length c1],.slice a2 l_.length c2,.slice a3 m_.length c3] aB w0 X0 (fun w X' v=>∃ r,Q r/\v=.bool r):=by
 unfold VC33 at hm
 replace hm:=hm (h1.sm kr)
 replace hm:=hm (h2.sm kr)
 replace hm:=hm (h3.sm kr)
 refine enter Tryz.func33 rfl (vals:=[.agg #[ii o_.ab,ii o_.aP,ii o_.aU,.slice a1 o_.Rows.length c1],.slice a2 l_.length c2,.slice a3 m_.length c3]) kr ?_
 intro Z a hS hO hM
 replace h1:=h1.m0 hM
 replace h2:=h2.m0 hM
 replace h3:=h3.m0 hM
 refine rM T hS ⟨[(1,Sl a2 l_ c2),(2,Sl a3 m_ c3),(3,Pt 4 0)],[(4,(24,(cO o_ a1 c1)))]⟩ fun Z a YP acu hS hE hr=>?_
 have ⟨hO,h1,h2,h3⟩:=e4e hE hO.m2 h1.m1 h2.m1 h3.m1
 clear hE hr
 refine bk (oPe T hS 2 [] [(21,V (.agg #[ii o_.ab,ii o_.aP,ii o_.aU,.slice a1 o_.Rows.length c1])),(22,Sl a2 l_ c2)] fun a hS=>?_)
 obtain ⟨hq,hm⟩:=hm
 refine op1 (call hS kr kr hb18 kr (fun _ _=>rfl) (Md _ _ o_ l_ a1 c1 a2 c2 hq h1 h2) ?_)
 intro v101 a eI eN hE hp hS
 have ⟨hO,h1,h2,h3⟩:=e4e hE hO.m2 h1.m1 h2.m1 h3.m1
 generalize hr:bo o_ l_=al at hp
 replace hm:=hm al hr
 subst hp
 refine eM T hS ⟨[(1,Sl a2 l_ c2),(2,Sl a3 m_ c3),(3,Pt 4 0),(7,Pt 8 0),(8,I al.2)],[(4,(24,(cO o_ a1 c1))),(8,(61,[I al.1.Ops,I al.1.ab]))]⟩ fun Z a YQ acv hS hE hr=>?_
 have ⟨hO,h1,h2,h3⟩:=e4e hE hO.m2 h1.m1 h2.m1 h3.m1
 clear hE hr
 refine a8 (rPe T hS [8] [(27,B (al.2 != 0))] fun a hS=>?_)
 refine aC hS (b:=(al.2 != 0)) kr (fun hb=>?_) fun hb=>?_
 ·replace hm:=hm.1 hb
  refine rP T hS ⟨[(6,B false)],[]⟩ fun a hS=>(aR ?_)
  exact fin T hS hO (fun c=>c) rfl (r:=[.bool false]) kr (fun X' hM hC=>⟨_,hm,rfl⟩)
 replace hm:=hm.2 hb
 refine aI (bk ?_)
 refine oPe T hS 2 [27] [(29,V (.agg #[ii al.1.Ops,ii al.1.ab])),(30,Sl a3 m_ c3)] fun a hS=>(op1 (call hS kr kr hb35 kr (fun _ _=>rfl) (L9 _ _ al.1 m_ a3 c3 h3) ?_))
 intro v105 a o9 qf hE hp hS
 have ⟨hO,h1,h2,h3⟩:=e4e hE hO.m2 h1.m1 h2.m1 h3.m1
 obtain ⟨iQ,iP,hp,h111⟩:=hp
 obtain ⟨bu,hr⟩:∃ r,aq al.1 m_=r:=⟨_,rfl⟩
 replace hm:=hm bu hr
 rw [hr] at hp h111
 clear hr
 subst hp
 replace hm:=hm (h111.sm kr)
 refine ePe T hS [29,30,31] [(9,Sl iQ bu.1 iP),(10,B bu.2)] fun a hS=>(bk ?_)
 refine oPe T hS 2 [] [(35,V (.agg #[ii al.1.Ops,ii al.1.ab])),(36,Sl a3 m_ c3)] fun a hS=>(op1 (call hS kr kr hb36 kr (fun _ _=>rfl) (L8 _ _ al.1 m_ a3 c3 h3) ?_))
 intro v112 a xc wW hE hp hS
 have ⟨hO,h1,h2,h3,h111⟩:=e5e hE hO.m2 h1.m1 h2.m1 h3.m1 h111.m1
 obtain ⟨dT,dS,hp,h118⟩:=hp
 obtain ⟨fZ,hr⟩:∃ r,aQ al.1 m_=r:=⟨_,rfl⟩
 replace hm:=hm fZ hr
 rw [hr] at hp h118
 clear hr
 subst hp
 replace hm:=hm (h118.sm kr)
 refine ePe T hS [35,36,37] [(11,Sl dT fZ.1 dS),(12,B fZ.2)] fun a hS=>(a8 ?_)
 refine rPe T hS [10,12] [(45,B ((!bu.2) || (!fZ.2)))] (sp:=[42]) fun a hS=>(aC hS (b:=((!bu.2) || (!fZ.2))) kr (fun hb=>?_) fun hb=>?_)
 ·replace hm:=hm.1 hb
  refine rP T hS ⟨[(6,B false)],[]⟩ fun a hS=>(aR ?_)
  exact fin T hS hO (fun c=>c) rfl (r:=[.bool false]) kr (fun X' hM hC=>⟨_,hm,rfl⟩)
 replace hm:=hm.2 hb
 refine aI (bk ?_)
 refine oPe T hS 2 [45] [(47,I (lN l_))] fun a hS=>?_
 obtain ⟨hq,hm⟩:=hm
 refine op1 (make (E:=4) (kl:=.i64) (kc:=.i64) (col:=1014) (T:=cD) T false hS kr kr kr kr kr kr hq.1 hq.2.1 (by have:=hq.2.2; have e_:((cD.bytes:Nat):Int)=1:=rfl; rw [e_]; omega) (by have:=hq.2.2; omega) (fun _ _=>rfl) ?_)
 intro b119 a ED JR hE h122 hN hS
 clear hq hN
 have ⟨hO,h1,h2,h3,h111,h118⟩:=e6e hE hO.m2 h1.m1 h2.m1 h3.m1 h111.m1 h118.m1
 replace hS:=hS.conv (t:=48) (y:=.slice (some ⟨b119,0,none⟩) (List.replicate (lN l_).toNat (false:Bool)).length (lN l_).toNat) kr (by rw [List.length_replicate])
 refine ePe T hS [47,48] [(13,V (.slice (some ⟨b119,0,none⟩) (List.replicate (lN l_).toNat (false:Bool)).length (lN l_).toNat))] fun a hS=>(cg (fun a w=>∃ Z X,∃ (rF:List Bool) (wS:Option Addr) (wI:Nat),VC33_J1 o_ l_ Q bu fZ rF/\St Tryz.f33.ntmps ⟨[(1,Sl a2 l_ c2),(3,Pt 4 0),(9,Sl iQ bu.1 iP),(11,Sl dT fZ.1 dS),(13,Sl wS rF wI)],[(4,(24,(cO o_ a1 c1)))]⟩ Z a w X/\Old w0 X0 w X/\RS ar w X a2 l_ c2/\RS tI w X iQ bu.1 iP/\RS tI w X dT fZ.1 dS/\OS cD 4 w X 1014 wS rF wI/\RS aF w X a1 o_.Rows c1) ?_ ?_)
 ·refine rPe T hS [] [(50,I (((List.replicate (lN l_).toNat (false:Bool)).length:Nat):Int)),(51,I 0)] fun a hS=>(aH ?_)
  obtain ⟨I2,μ2,cC,hm⟩:=hm
  refine cu (σ:=(List Bool) × Int) (fun s a w=>∃ Z X yM yB,I2 s.1 s.2/\St Tryz.f33.ntmps ⟨[(1,Sl a2 l_ c2),(2,Sl a3 m_ c3),(3,Pt 4 0),(7,Pt 8 0),(9,Sl iQ bu.1 iP),(11,Sl dT fZ.1 dS),(13,Sl yM s.1 yB),(50,I (((List.replicate (lN l_).toNat (false:Bool)).length:Nat):Int)),(51,I s.2)],[(4,(24,(cO o_ a1 c1))),(8,(61,[I al.1.Ops,I al.1.ab]))]⟩ Z a w X/\Old w0 X0 w X/\RS ar w X a2 l_ c2/\RS cD w X a3 m_ c3/\RS tI w X iQ bu.1 iP/\RS tI w X dT fZ.1 dS/\OS cD 4 w X 1014 yM s.1 yB/\RS aF w X a1 o_.Rows c1) (fun s=>μ2 s.1 s.2) (⟨List.replicate (lN l_).toNat (false:Bool),0⟩) ?_ ?_
  ·exact ⟨Z,_,(some ⟨b119,0,none⟩),(lN l_).toNat,cC,hS.sl _,hO,h2,h3,h111,h118,h122,h1⟩
  rintro ⟨yW,o5⟩ a Ov ⟨Z,VB,yM,yB,hI,hS,hO,h166,h167,h168,h169,h173,h175⟩
  replace hm:=hm yW o5 hI
  clear hI cC
  refine rPe T hS [] [(52,B (decide (o5 < (((List.replicate (lN l_).toNat (false:Bool)).length:Nat):Int))))] fun a hS=>(a8 ?_)
  refine aC hS (b:=decide (o5 < (((List.replicate (lN l_).toNat (false:Bool)).length:Nat):Int))) kr (fun hb=>?_) fun hb=>?_
  ·replace hm:=hm.1 hb
   refine aI (a8 ?_)
   refine aH (rPe T hS [52] [(14,I o5)] fun a hS=>?_)
   refine region (oPe T hS 6 [14] [(54,Sl yM yW yB),(55,I o5),(56,Sl a3 m_ c3),(57,V (.agg #[ii al.1.Ops,ii al.1.ab])),(59,V (.agg #[ii 2,ii o5,ii 0]))] fun a hS=>?_)
   refine op1 (call hS kr kr hb65 kr (fun _ _=>rfl) (oG _ _ al.1 (⟨2,o5,0⟩:aW)) ?_)
   intro v176 a Lo Rq hE hp hS
   have ⟨hO,h166,h167,h168,h169,h173,h175⟩:=e7e hE hO.m2 h166.m1 h167.m1 h168.m1 h169.m1 h173.m2 h175.m1
   generalize hr:bd al.1 (⟨2,o5,0⟩:aW)=ig at hp
   replace hm:=hm ig hr
   subst hp
   refine oPe T hS 1 [57,59,60] [(61,I (wR (ig - 1)))] fun a hS=>?_
   obtain ⟨hq,hm⟩:=hm
   refine op1 (index (e:=4) (k:=.i64) T hS kr kr kr kr h167 kr kr hq.1 hq.2 ?_)
   intro acQ a h181 hS
   refine op1 (fc T hS kr kr kr h181 rfl kr ?_)
   intro v182 a hv hS
   cases hv
   obtain ⟨xT,hm⟩:=hm
   refine op1 (iC (E:=4) (k:=.i64) T hS kr kr kr kr h173 kr kr xT.1 xT.2 ?_)
   intro acP a h185 h184 hS
   refine op1 (mR (x:=gi m_ (wR (ig - 1))) (v:=B (gi m_ (wR (ig - 1)))) (i:=o5.toNat) (E:=4) (xs:=yW) T hS kr kr kr kr h173 h185 (by have:=xT.1; have:=xT.2; omega) kr (fun _ _ _=>rfl) ?_)
   intro a Lm hE h188 hS
   clear h173 h185 h184 xT
   have ⟨hO,h166,h167,h168,h169,h175,h181⟩:=e7e hE hO.m2 h166.m1 h167.m1 h168.m1 h169.m1 h175.m1 h181.m1
   replace hS:=hS.conv (t:=13) (y:=.slice yM (yW.set o5.toNat (gi m_ (wR (ig - 1)))).length yB) kr (by rw [List.length_set])
   replace hS:=hS.conv (t:=54) (y:=.slice yM (yW.set o5.toNat (gi m_ (wR (ig - 1)))).length yB) kr (by rw [List.length_set])
   refine gM (region (ePe T hS [] [(51,I (wR (o5+1)))] fun a hS=>?_))
   exact ⟨⟨(yW.set o5.toNat (gi m_ (wR (ig - 1)))),wR (o5+1)⟩,⟨Z,_,yM,yB,hm.1,hS.sl _,hO,h166,h167,h168,h169,h188,h175⟩,hm.2⟩
  replace hm:=hm.2 hb
  refine cl (by rfl) ?_
  exact ⟨Z,_,yW,yM,yB,hm,hS.sl _,hO,h166,h168,h169,h173,h175⟩
 rintro a YR ⟨Z,Vz,rF,wS,wI,hm,hS,hO,h123,h124,h125,h129,h130⟩
 unfold VC33_J1 at hm
 refine bk (oP T hS 4 ⟨[(1,Sl a2 l_ c2),(9,Sl iQ bu.1 iP),(11,Sl dT fZ.1 dS),(67,V (.agg #[ii o_.ab,ii o_.aP,ii o_.aU,.slice a1 o_.Rows.length c1])),(68,Sl a2 l_ c2),(69,Sl iQ bu.1 iP),(70,Sl wS rF wI)],[]⟩ fun a hS=>?_)
 obtain ⟨RC,hE,hF⟩:=h129.freeze (by decide)
 replace hS:=hS.ev hE (cq kr)
 have ⟨hO,h123,h124,h125,h130⟩:=e5e hE hO.m2 h123.m1 h124.m1 h125.m1 h130.m1
 have h132:=hF; clear hE hF
 obtain ⟨hq,hm⟩:=hm
 refine op1 (call hS kr kr hb83 kr (fun _ _=>rfl) (Tv _ _ o_ l_ bu.1 rF a1 c1 a2 c2 iQ iP wS wI hq h130 h123 h124 h132) ?_)
 intro v133 a HO Hi hE hp hS
 have ⟨hO,h123,h124,h125,h130,h132⟩:=e6e hE hO.m2 h123.m1 h124.m1 h125.m1 h130.m1 h132.m1
 obtain ⟨wQ,wH,hp,h139⟩:=hp
 obtain ⟨mI,hr⟩:∃ r,b6 o_ l_ bu.1 rF=r:=⟨_,rfl⟩
 replace hm:=hm mI hr
 rw [hr] at hp h139
 clear hr
 subst hp
 replace hm:=hm (h139.sm kr)
 refine ePe T hS [67,68,69,70,71] [(15,Sl wQ mI.1 wH),(16,B mI.2)] fun a hS=>(a8 ?_)
 refine bk (oPe T hS 2 [1,9] [(75,Sl iQ bu.1 iP),(76,Sl a2 l_ c2)] fun a hS=>?_)
 obtain ⟨hq,hm⟩:=hm
 refine op1 (call hS kr kr hb22 kr (fun _ _=>rfl) (Di _ _ l_ a2 c2 hq h123) ?_)
 intro v140 a Lt NY hE hp hS
 have ⟨hO,h123,h124,h125,h139⟩:=e5e hE hO.m2 h123.m1 h124.m1 h125.m1 h139.m1
 obtain ⟨lv,lq,hp,h146⟩:=hp
 obtain ⟨jT,hr⟩:∃ r,bS l_=r:=⟨_,rfl⟩
 replace hm:=hm jT hr
 rw [hr] at hp h146
 clear hr
 subst hp
 replace hm:=hm (h146.sm kr)
 refine op1 (call hS kr kr hb84 kr (fun _ _=>rfl) (Tu _ _ bu.1 jT iQ iP lv lq h124 h146) ?_)
 intro v147 a SU VK hE hp hS
 have ⟨hO,h123,h124,h125,h139,h146⟩:=e6e hE hO.m2 h123.m1 h124.m1 h125.m1 h139.m1 h146.m1
 generalize hr:di bu.1 jT=xz at hp
 replace hm:=hm xz hr
 subst hp
 refine ePe T hS [75,76,77,78] [(18,B xz.2)] fun a hS=>(rPe T hS [16,18] [(86,B ((!xz.2) || (!mI.2)))] (sp:=[83]) fun a hS=>?_)
 refine aC hS (b:=((!xz.2) || (!mI.2))) kr (fun hb=>?_) fun hb=>?_
 ·replace hm:=hm.1 hb
  refine rPe T hS [11,15,86] [(6,B false)] fun a hS=>(aR ?_)
  exact fin T hS hO (fun c=>c) rfl (r:=[.bool false]) kr (fun X' hM hC=>⟨_,hm,rfl⟩)
 replace hm:=hm.2 hb
 refine aI (cg (fun a w=>∃ Z X,VC33_J2 Q/\St Tryz.f33.ntmps ⟨[],[]⟩ Z a w X/\Old w0 X0 w X) ?_ ?_)
 ·refine rPe T hS [86] [(88,I (lN fZ.1)),(89,I 0)] fun a hS=>(aH ?_)
  obtain ⟨I1,μ1,cC,hm⟩:=hm
  refine cu (σ:=Int) (fun s a w=>∃ Z X,I1 s/\St Tryz.f33.ntmps ⟨[(11,Sl dT fZ.1 dS),(15,Sl wQ mI.1 wH),(88,I (lN fZ.1)),(89,I s)],[]⟩ Z a w X/\Old w0 X0 w X/\RS tI w X dT fZ.1 dS/\RS tI w X wQ mI.1 wH) (fun s=>μ1 s) (0) ?_ ?_
  ·exact ⟨Z,_,cC,hS.sl _,hO,h125,h139⟩
  rintro jf a yY ⟨Z,NT,hI,hS,hO,h151,h152⟩
  replace hm:=hm jf hI
  clear hI cC
  refine rPe T hS [] [(90,B (decide (jf < (lN fZ.1))))] fun a hS=>(a8 ?_)
  refine aC hS (b:=decide (jf < (lN fZ.1))) kr (fun hb=>?_) fun hb=>?_
  ·replace hm:=hm.1 hb
   refine aI (a8 ?_)
   refine aH (rPe T hS [90] [(19,I jf)] fun a hS=>?_)
   refine eT [] mixed hS ?_
   intro Cw D1 hS hE hD hH
   have ⟨hO,h151,h152⟩:=e3e hE hO.m2 h151.m1 h152.m1
   refine tke T [0,1,4,5] [] hS hH #[true,true,false,false,true,true,false,false,false] 5 [19] [(92,Sl dT fZ.1 dS),(93,I jf),(96,Sl wQ mI.1 wH),(97,I jf)] fun a hS=>?_
   obtain ⟨hq,hm⟩:=hm
   refine eY (e:=3) (k:=.i64) T 2 hS kr kr kr (by rfl) kr hH kr kr h151 kr kr hq.1 hq.2 ?_
   intro RJ a h157 hS
   have Gy:=h157.here
   refine gu T 3 hS kr kr kr (by rfl) kr hH kr h157 Gy rfl kr ?_
   intro v158 a hv hS
   cases hv
   obtain ⟨hq,hm⟩:=hm
   refine eY (e:=3) (k:=.i64) T 6 hS kr kr kr (by rfl) kr hH kr kr h152 kr kr hq.1 hq.2 ?_
   intro V2 a h160 hS
   have B9:=h160.here
   refine gu T 7 hS kr kr kr (by rfl) kr hH kr h160 B9 rfl kr ?_
   intro v161 a hv hS
   cases hv
   refine tke T [8] [] hS hH (tts 9) 0 [92,93,96,97,94,95,98,99] [(100,B ((gi fZ.1 jf) != (gi mI.1 jf)))] fun a hS=>(bn kr ?_)
   replace hS:=hS.sle [] []
   refine aC hS (b:=((gi fZ.1 jf) != (gi mI.1 jf))) kr (fun hb=>?_) fun hb=>?_
   ·replace hm:=hm.1 hb
    refine rPe T hS [11,15,88,89,100] [(6,B false)] fun a hS=>(aR ?_)
    exact fin T hS hO (fun c=>c) rfl (r:=[.bool false]) kr (fun X' hM hC=>⟨_,hm,rfl⟩)
   replace hm:=hm.2 hb
   refine aI (region (ePe T hS [100] [(89,I (wR (jf+1)))] fun a hS=>?_))
   exact ⟨wR (jf+1),⟨Z,_,hm.1,hS.sl _,hO,h151,h152⟩,hm.2⟩
  replace hm:=hm.2 hb
  refine cl (by rfl) ?_
  exact ⟨Z,_,hm,hS.sl _,hO⟩
 rintro a OD ⟨Z,AL,hm,hS,hO⟩
 unfold VC33_J2 at hm
 refine rPe T hS [] [(6,B true)] fun a hS=>(aR ?_)
 exact fin T hS hO (fun c=>c) rfl (r:=[.bool true]) kr (fun X' hM hC=>⟨_,hm,rfl⟩)
theorem C33 (Md:S18) (Di:S22) (L9:S35) (L8:S36) (oG:S65) (Tv:S83) (Tu:S84) (v:∀ (o_:ah) (l_:List ae) (m_:List Bool),q8 o_ l_ m_->VC33 o_ l_ m_ (fun r=>r=dy o_ l_ m_)):S33:=fun w X o_ l_ m_ a1 c1 a2 c2 a3 c3 hp h1 h2 h3=>mo1 (W33 Md Di L9 L8 oG Tv Tu w X o_ l_ m_ a1 c1 a2 c2 a3 c3 _ (v o_ l_ m_ hp) h1 h2 h3)
theorem W37 (L7:S38) (w0) (X0) (k_:Int) (i_:Int) (aj:ah) (aX:List Int) (dj:List ae) (jK:List ak) (a1) (c1) (a2) (c2) (a3) (c3) (a4) (c4) (m4) (b1) (i1) (b2) (i2) (b3) (i3) (b4) (i4) (Q:(List ak)->Prop) (hm:VC37 k_ i_ aj aX dj jK Q) (h1:RS aF w0 X0 a1 aj.Rows c1) (h2:RS tI w0 X0 a2 aX c2) (h3:RS ar w0 X0 a3 dj c3) (h4:OS aO 93 w0 X0 m4 a4 jK c4) (eO:Cell w0 X0 b1 i1 24 [ii aj.ab,ii aj.aP,ii aj.aU,.slice a1 aj.Rows.length c1]) (lz:Cell w0 X0 b2 i2 79 [.slice a2 aX.length c2]) (B6:Cell w0 X0 b3 i3 25 [.slice a3 dj.length c3]) (Ss:Cell w0 X0 b4 i4 41 [.slice a4 jK.length c4]) (hA:dL [i1,i2,i3,i4,m4]) :
  rt 37 #[ii k_,ii i_,.pointer (some ⟨b1,0,none⟩),.pointer (some ⟨b2,0,none⟩),.pointer (some ⟨b3,0,none⟩),.pointer (some ⟨b4,0,none⟩)] (pR [i1,i2,i3,i4,m4]) w0 X0 (fun w X' v=>∃ r,Q r/\∃ dg de,v=.tuple #[]/\OS aO 93 w X' m4 dg r de/\Cell w X' b1 i1 24 [ii aj.ab,ii aj.aP,ii aj.aU,.slice a1 aj.Rows.length c1]/\Cell w X' b2 i2 79 [.slice a2 aX.length c2]/\Cell w X' b3 i3 25 [.slice a3 dj.length c3]/\Cell w X' b4 i4 41 [.slice dg r.length de]):=by
 unfold VC37 at hm
 replace hm:=hm (h1.sm kr)
 replace hm:=hm (h2.sm kr)
 replace hm:=hm (h3.sm kr)
 replace hm:=hm (h4.sm kr)
 refine fO Tryz.func37 rfl (eH (zL3d1 i1 i2 i3 i4 m4)) (zi4 b1 b2 b3 b4) (args:=[I k_,I i_,Pt 901 0,Pt 902 0,Pt 903 0,Pt 904 0]) (bxs:=[(901,(24,(cO aj a1 c1))),(902,(79,[Sl a2 aX c2])),(903,(25,[Sl a3 dj c3])),(904,(41,[Sl a4 jK c4]))]) kr rfl (aY.cons kr (eO.map (cr 0 hA.1 rfl)) (aY.cons kr (lz.map (cr 1 hA.1 rfl)) (aY.cons kr (B6.map (cr 2 hA.1 rfl)) (aY.cons kr (Ss.map (cr 3 hA.1 rfl)) aY.nil)))) (fC (fun q hq=>(hA.2 q.1 (List.mem_map.2 ⟨q,hq,rfl⟩)).1)) ?_
 intro a hS hO hM
 have hP:=pn4 b1 b2 b3 b4
 generalize (zi4 b1 b2 b3 b4)=Z at hS hP
 clear eO lz B6 Ss
 replace h1:=h1.m0 hM
 replace h2:=h2.m0 hM
 replace h3:=h3.m0 hM
 replace h4:=h4.map (f:=eH (zL3d1 i1 i2 i3 i4 m4)) (cr 4 hA.1 rfl) hM
 refine eT [901,902,903,904] mixed hS ?_
 intro pa qg hS hE hD hH
 have ⟨hO,h1,h2,h3,h4⟩:=e5e hE hO.m2 h1.m1 h2.m1 h3.m1 h4.m2
 refine tke T [0,1,2,5,6] [901,902,903,904] hS hH #[true,true,true,false,false,true,true,false,false,false,false,false,false,false,false,false,false,false] 13 [0,2,3,4] [(12,V (.agg #[ii aj.ab,ii aj.aP,ii aj.aU,.slice a1 aj.Rows.length c1])),(13,Sl a2 aX c2),(14,I k_),(17,Sl a3 dj c3),(18,I i_)] fun a hS=>?_
 obtain ⟨hq,hm⟩:=hm
 refine eY (e:=3) (k:=.i64) T 3 hS kr kr kr (by rfl) kr hH kr kr h2 kr kr hq.1 hq.2 ?_
 intro Hr a h104 hS
 have Qt:=h104.here
 refine gu T 4 hS kr kr kr (by rfl) kr hH kr h104 Qt rfl kr ?_
 intro v105 a hv hS
 cases hv
 obtain ⟨hq,hm⟩:=hm
 refine eY (e:=91) (k:=.i64) T 7 hS kr kr kr (by rfl) kr hH kr kr h3 kr kr hq.1 hq.2 ?_
 intro RQ a h107 hS
 have Gz:=h107.here
 refine gN (off:=1) (fsz:=1) (ft:=3) (TF:=tI) (y:=(gi dj i_).Kind) 8 T hS kr kr kr (by rfl) kr hH kr h107 kr kr kr (fun cs h=>nq h) ?_
 intro adi a h109 kV hS
 have K1:=Gz
 rw [← kV] at K1
 clear kV
 refine gu T 9 hS kr kr kr (by rfl) kr hH kr h109 K1 rfl kr ?_
 intro v110 a hv hS
 cases hv
 refine only 10 kr (by rfl) (call hS kr kr hb38 kr (fun _ _=>rfl) (L7 _ _ aj (gi aX k_) ((gi dj i_).Kind) a1 c1 h1) ?_)
 intro v111 a EF AP hE hp hS
 replace hO:=hO.m2 hE
 replace hD:=hD.ev hE rfl
 have ⟨h1,h2,h3,h4,h104,h107,h109⟩:=e7e hE h1.m1 h2.m1 h3.m1 h4.m2 h104.m1 h107.m1 h109.m1
 generalize hr:eQ aj (gi aX k_) ((gi dj i_).Kind)=fR at hp
 replace hm:=hm fR hr
 subst hp
 replace hS:=hS.sle [] [(22,V (.tuple #[ii fR.1,ii fR.2.1,.bool fR.2.2]))]
 refine cm (br.of hS (bks:=[901,902,903,904]) kr hD) ?_
 intro hH
 refine tke T [11,12,13,14,15,16,17] [901,902,903,904] hS hH (tts 18) 0 [12,13,14,17,18,15,16,19,20,21,22] [(9,I fR.2.1)] fun a hS=>(bn kr ?_)
 replace hS:=hS.sle [] []
 refine region (oPe T hS 4 [1,9] [(26,Sl a4 jK c4),(29,V (.agg #[ii i_,ii fR.2.1]))] fun a hS=>?_)
 refine op1 (lit (E:=93) (col:=0) (T:=aO) (vals:=[.agg #[ii i_,ii fR.2.1]]) (ys:=[(⟨i_,fR.2.1⟩:ak)]) T hS kr kr kr kr (by exact ⟨rfl,trivial⟩) rfl kr kr kr kr ?_)
 intro b115 a EE Hk hE h118 hN hS
 clear hN
 have ⟨hO,h1,h2,h3,h4⟩:=e5e hE hO.m2 h1.m1 h2.m1 h3.m1 h4.m2
 replace h118:=h118.rs0
 obtain ⟨hq,hm⟩:=hm
 obtain ⟨news,hN⟩:=h118.src
 refine op1 (append (E:=93) (T:=aO) (col:=2004) (xs:=jK) T hS kr kr kr kr h4 hN kr kr kr kr hq ?_)
 intro wT wJ a CC D4 hE h121 hS
 clear hq hN
 clear h4
 have ⟨hO,h1,h2,h3,h118⟩:=e5e hE hO.m2 h1.m1 h2.m1 h3.m1 h118.m1
 refine eM T hS ⟨[],[(901,(24,(cO aj a1 c1))),(902,(79,[Sl a2 aX c2])),(903,(25,[Sl a3 dj c3])),(904,(41,[Sl wT (jK++[(⟨i_,fR.2.1⟩:ak)]) wJ]))]⟩ fun Z a CB D2 hS hE hr=>?_
 have ⟨hO,h1,h2,h3,h121⟩:=e5e hE hO.m2 h1.m1 h2.m1 h3.m1 h121.m2
 replace hP:=hP.mv hr kr
 clear hE hr
 exact jP T hS hO (fun c h=>cw kr h) (fun c h=>cz (l:=(zL3d1 i1 i2 i3 i4 m4)) h) (dC (zL3d1 i1 i2 i3 i4 m4)) rfl (r:=[]) kr (fun X' hM hC=>⟨(jK++[(⟨i_,fR.2.1⟩:ak)]),hm,wT,wJ,rfl,(OS.out (f:=(dC (zL3d1 i1 i2 i3 i4 m4))) h121 hM hC kr),((hS.cell (id:=901) (t:=24) (cs:=(cO aj a1 c1)) kr).out (f:=(dC (zL3d1 i1 i2 i3 i4 m4))) hC kr kr (hP.at 0 rfl)),((hS.cell (id:=902) (t:=79) (cs:=[Sl a2 aX c2]) kr).out (f:=(dC (zL3d1 i1 i2 i3 i4 m4))) hC kr kr (hP.at 1 rfl)),((hS.cell (id:=903) (t:=25) (cs:=[Sl a3 dj c3]) kr).out (f:=(dC (zL3d1 i1 i2 i3 i4 m4))) hC kr kr (hP.at 2 rfl)),((hS.cell (id:=904) (t:=41) (cs:=[Sl wT (jK++[(⟨i_,fR.2.1⟩:ak)]) wJ]) kr).out (f:=(dC (zL3d1 i1 i2 i3 i4 m4))) hC kr kr (hP.at 3 rfl))⟩)
theorem C37 (L7:S38) (v:∀ (k_:Int) (i_:Int) (aj:ah) (aX:List Int) (dj:List ae) (jK:List ak),Bq k_ i_ aj aX dj jK->VC37 k_ i_ aj aX dj jK (fun r=>r=eZ k_ i_ aj aX dj jK)):S37:=fun w X k_ i_ aj aX dj jK a1 c1 a2 c2 a3 c3 a4 c4 m4 b1 i1 b2 i2 b3 i3 b4 i4 hp h1 h2 h3 h4 eO lz B6 Ss hA=>mo1 (W37 L7 w X k_ i_ aj aX dj jK a1 c1 a2 c2 a3 c3 a4 c4 m4 b1 i1 b2 i2 b3 i3 b4 i4 _ (v k_ i_ aj aX dj jK hp) h1 h2 h3 h4 eO lz B6 Ss hA)
end Go.Proofs.YtobeanopikjkeaaGreat
