/- Lemmas. Conditions: their own. -/
import Derived.Test.YtmgahplojkmcaaaGreatFWalksS
set_option linter.all false
namespace Go.Proofs.Y
open Go Go.Sv
section
abbrev zN0(U5:Nat):Nat->Nat:=λc=>(bif Nat.beq c 1005 then U5 else c)
set_option maxHeartbeats 1000000
theorem W130(alv:S214)(w0)(X0)(x_:List Int)(count:Int)(a1)(c1)(U5)(Q:(List Int)->Prop)(hm:VC130 x_ count Q)(h1:RS tI w0 X0 a1 x_ c1):
  Bf Tryz.prog 130 #[.slice a1 x_.length c1,.int .i64 count] eN w0 X0 (λw X' v=>∃r,Q r/\∃Zf Zd,v=.slice Zf r.length Zd/\OS tI 3 w X' U5 Zf r Zd):=by
 unfold VC130 iF lN wI dE fj eM at hm;replace hm:=hm (h1.sm kr);refine enter Tryz.func130 rfl (vals:=[.slice a1 x_.length c1,.int .i64 count]) kr ?_;intro Y a hS hO hM;replace h1:=h1.m0 hM;refine D9 T hS [] [] λa hS=>?_;refine xd ?_;refine D9 T hS [] [(10,B (decide (count<0)))] λa hS=>?_;refine qy hS (b:=decide (count<0)) kr (λhb=>?_) λhb=>?_
 .replace hm:=hm.1 hb;exact hm.elim
 replace hm:=hm.2 hb;refine wR ?_;refine ON ?_;refine M5 T hS 5 [1,10] [(15,V (.int .u64 (IntKind.u64.wrap ((x_.length:Nat):Int)))),(17,V (.int .u64 (IntKind.u64.wrap count)))] λa hS=>?_;obtain⟨hq,hm⟩:=hm;refine A6 (call hS kr kr hb214 kr (λ_ _=>rfl) (alv _ _ (IntKind.u64.wrap ((x_.length:Nat):Int)) (IntKind.u64.wrap count) hq) ?_);intro v101 a ao8 atc hE hp hS;replace hO:=hO.mv hE rfl rfl;replace h1:=h1.mv hE rfl;obtain⟨jU,hr⟩:∃r,gH (IntKind.u64.wrap ((x_.length:Nat):Int)) (IntKind.u64.wrap count)=r:=⟨_,rfl⟩
 replace hm:=hm jU hr;rw[hr]at hp;clear hr;subst hp;refine P6 T hS [15,17,18] [(5,V (.int .u64 jU.1)),(6,V (.int .u64 jU.2))] λa hS=>?_;refine xd ?_;refine D9 T hS [5] [(26,B ((decide (jU.1>0))||(decide (jU.2>9223372036854775807))))] (sp:=[23]) λa hS=>?_;refine qy hS (b:=((decide (jU.1>0))||(decide (jU.2>9223372036854775807)))) kr (λhb=>?_) λhb=>?_
 .replace hm:=hm.1 hb;exact hm.elim
 replace hm:=hm.2 hb;refine wR ?_;refine ON ?_;refine M5 T hS 2 [6,26] [(29,I (IntKind.i64.wrap jU.2))] λa hS=>?_;obtain⟨hq,hm⟩:=hm;refine A6 (make (E:=3) (kl:=.i64) (kc:=.i64) (dt:=1005) (T:=tI) T 0 hS kr kr kr kr kr kr hq.1 hq.2.1 (by have:=hq.2.2;have e_:((tI.bytes:Nat):Int)=8:=rfl;rw[e_];omega) (by have:=hq.2.2;omega) (λ_ _=>show(_:List Value)=_ from by kernel_rfl) ?_);intro b105 a ao7 amY hE h108 hN hS;clear hq hN;replace hO:=hO.mv hE rfl rfl;replace h1:=h1.mv hE rfl;replace hS:=hS.conv (t:=30) (y:=.slice (some ⟨b105,0,none⟩) (List.replicate (IntKind.i64.wrap jU.2).toNat (0:Int)).length (IntKind.i64.wrap jU.2).toNat) kr (by rw[oE]);refine P6 T hS [29,30] [(7,V (.slice (some ⟨b105,0,none⟩) (List.replicate (IntKind.i64.wrap jU.2).toNat (0:Int)).length (IntKind.i64.wrap jU.2).toNat))] λa hS=>?_;refine ON ?_;refine M5 T hS 2 [0] [(31,V (.slice (some ⟨b105,0,none⟩) (List.replicate (IntKind.i64.wrap jU.2).toNat (0:Int)).length (IntKind.i64.wrap jU.2).toNat)),(32,Sl a1 x_ c1)] λa hS=>?_;obtain⟨news,hN⟩:=h1.src;refine A6 (aaa (E:=3) (T:=tI) (xs:=List.replicate (IntKind.i64.wrap jU.2).toNat (0:Int)) (ys:=x_) (l:=0) (cx:=(IntKind.i64.wrap jU.2).toNat) T hS kr kr kr (FH h108) kr h108 hN kr kr kr (mb _) ?_);intro a ao6 hE h110 hS;clear hN h108;replace hO:=hO.mv hE rfl rfl;replace h1:=h1.mv hE rfl;replace hS:=hS.conv (t:=7) (x:=.slice (some ⟨b105,0,none⟩) (List.replicate (IntKind.i64.wrap jU.2).toNat (0:Int)).length (IntKind.i64.wrap jU.2).toNat) (y:=.slice (some ⟨b105,0,none⟩) ((List.replicate (IntKind.i64.wrap jU.2).toNat (0:Int)).take 0++x_.take ((List.replicate (IntKind.i64.wrap jU.2).toNat (0:Int)).length-0)++(List.replicate (IntKind.i64.wrap jU.2).toNat (0:Int)).drop (0+min x_.length ((List.replicate (IntKind.i64.wrap jU.2).toNat (0:Int)).length-0))).length (IntKind.i64.wrap jU.2).toNat) kr (by simp only[aS,bH,dy];congr 1<;>omega);replace hS:=hS.conv (t:=31) (x:=.slice (some ⟨b105,0,none⟩) (List.replicate (IntKind.i64.wrap jU.2).toNat (0:Int)).length (IntKind.i64.wrap jU.2).toNat) (y:=.slice (some ⟨b105,0,none⟩) ((List.replicate (IntKind.i64.wrap jU.2).toNat (0:Int)).take 0++x_.take ((List.replicate (IntKind.i64.wrap jU.2).toNat (0:Int)).length-0)++(List.replicate (IntKind.i64.wrap jU.2).toNat (0:Int)).drop (0+min x_.length ((List.replicate (IntKind.i64.wrap jU.2).toNat (0:Int)).length-0))).length (IntKind.i64.wrap jU.2).toNat) kr (by simp only[aS,bH,dy];congr 1<;>omega);refine P6 T hS [31,32,33] [(8,I ((min x_.length ((List.replicate (IntKind.i64.wrap jU.2).toNat (0:Int)).length-0):Nat):Int))] λa hS=>?_;refine Q9 (λa w=>∃(Y:Nat->Nat)(X:Nat->Nat)(Kk:List Int)(Qz:Option Addr)(Qj:Nat),VC130_J1 Q Kk/\St Tryz.f130.ntmps ⟨[(7,Sl Qz Kk Qj)],[]⟩ Y a w X/\Old w0 X0 w X/\OS tI 3 w X 1005 Qz Kk Qj) ?_ ?_
 .refine zo ?_;obtain⟨I1,μ1,Lu,hm⟩:=hm;refine Q2 (σ:=(List Int)×Int) (λs a w=>∃Y X a116 zf,I1 s.1 s.2/\St Tryz.f130.ntmps ⟨[(7,Sl a116 s.1 zf),(8,I s.2)],[]⟩ Y a w X/\Old w0 X0 w X/\OS tI 3 w X 1005 a116 s.1 zf) (λs=>μ1 s.1 s.2) (⟨(List.replicate (IntKind.i64.wrap jU.2).toNat (0:Int)).take 0++x_.take ((List.replicate (IntKind.i64.wrap jU.2).toNat (0:Int)).length-0)++(List.replicate (IntKind.i64.wrap jU.2).toNat (0:Int)).drop (0+min x_.length ((List.replicate (IntKind.i64.wrap jU.2).toNat (0:Int)).length-0)),((min x_.length ((List.replicate (IntKind.i64.wrap jU.2).toNat (0:Int)).length-0):Nat):Int)⟩) ?_ ?_
  .exact⟨Y,_,(some ⟨b105,0,none⟩),(IntKind.i64.wrap jU.2).toNat,Lu,hS.sl _,hO,h110⟩
  rintro⟨jk,iS⟩ a ao0 ⟨Y,as6,a116,zf,hI,hS,hO,h118⟩;replace hm:=hm jk iS hI;clear hI Lu;refine xd ?_;refine D9 T hS [] [(37,B (decide (iS<((jk.length:Nat):Int))))] λa hS=>?_;refine qy hS (b:=decide (iS<((jk.length:Nat):Int))) kr (λhb=>?_) λhb=>?_
  .replace hm:=hm.1 hb;refine wR ?_;refine zo ?_;refine ac2 [] mixed hS ?_;intro ao3 as8 hS hE hD hH;replace hO:=hO.mv hE rfl rfl;replace h118:=h118.mv hE rfl rfl;refine tke T [0,1,2,4,5] [] hS hH #[true,true,true,false,true,true,false,false,false,false] 5 [] [(38,I iS),(39,Sl a116 jk zf),(40,I iS),(42,Sl a116 jk zf),(43,I iS)] λa hS=>?_;obtain⟨w8,hm⟩:=hm;refine Yp (E:=3) (k:=.i64) (l:=iS) T 3 hS kr kr kr (by rfl) kr hH kr kr h118 kr kr w8.1 w8.2 ?_;intro a hS;obtain⟨ZI,hm⟩:=hm;refine Yq (E:=3) (k:=.i64) (l:=iS) T 6 hS kr kr kr (by rfl) kr hH kr kr h118 kr kr ZI.1 ZI.2 ?_;intro a hS;obtain⟨news,hN⟩:=(h118.Wq iS.toNat)
   refine only 7 kr (by rfl) (aaa (E:=3) (T:=tI) (xs:=jk) (ys:=jk.take iS.toNat) (l:=iS.toNat) (cx:=zf-iS.toNat) T hS kr kr kr rfl kr h118 hN kr kr kr (by have:=w8.1;have:=w8.2;omega) ?_);intro a ao1 hE h125 hS;clear hN h118;replace hO:=hO.mv hE rfl rfl;replace hD:=hD.ev hE rfl;replace hS:=hS.conv (t:=7) (x:=.slice a116 jk.length zf) (y:=.slice a116 (jk.take iS.toNat++(jk.take iS.toNat).take (jk.length-iS.toNat)++jk.drop (iS.toNat+min (jk.take iS.toNat).length (jk.length-iS.toNat))).length zf) kr (by have:=w8.1;have:=w8.2;simp only[aS,bH,dy];congr 1<;>omega);replace hS:=hS.conv (t:=39) (x:=.slice a116 jk.length zf) (y:=.slice a116 (jk.take iS.toNat++(jk.take iS.toNat).take (jk.length-iS.toNat)++jk.drop (iS.toNat+min (jk.take iS.toNat).length (jk.length-iS.toNat))).length zf) kr (by have:=w8.1;have:=w8.2;simp only[aS,bH,dy];congr 1<;>omega);replace hS:=hS.conv (t:=42) (x:=.slice a116 jk.length zf) (y:=.slice a116 (jk.take iS.toNat++(jk.take iS.toNat).take (jk.length-iS.toNat)++jk.drop (iS.toNat+min (jk.take iS.toNat).length (jk.length-iS.toNat))).length zf) kr (by have:=w8.1;have:=w8.2;simp only[aS,bH,dy];congr 1<;>omega);refine amU (oG.of hS (bks:=[]) kr hD) ?_;intro hH;refine tke T [8,9] [] hS hH (tts 10) 0 [38,39,40,42,43,45] [(8,I (IntKind.i64.wrap (iS+((min (jk.take iS.toNat).length (jk.length-iS.toNat):Nat):Int))))] λa hS=>?_;refine Fp kr ?_;replace hS:=hS.sle [] [];exact⟨⟨jk.take iS.toNat++(jk.take iS.toNat).take (jk.length-iS.toNat)++jk.drop (iS.toNat+min (jk.take iS.toNat).length (jk.length-iS.toNat)),IntKind.i64.wrap (iS+((min (jk.take iS.toNat).length (jk.length-iS.toNat):Nat):Int))⟩,⟨Y,_,a116,zf,hm.1,hS.sl _,hO,h125⟩,hm.2⟩
  replace hm:=hm.2 hb;refine Q8 (by rfl) ?_;exact⟨Y,_,jk,a116,zf,hm,hS.sl _,hO,h118⟩
 rintro a aoY ⟨Y,as5,Kk,Qz,Qj,hm,hS,hO,h114⟩;unfold VC130_J1 at hm;refine D9 T hS [7] [(4,Sl Qz Kk Qj)] λa hS=>?_;refine QW ?_;exact fin T hS hO (zN0 U5) rfl (r:=[.slice Qz Kk.length Qj]) kr (λX' hM hC=>⟨Kk,hm,Qz,Qj,rfl,(OS.out (f:=(zN0 U5)) h114 hM hC kr)⟩)
theorem W83(alw:S135)(af0:S136)(w0)(X0)(s_:List UInt8)(line:Int)(at_:Int)(Q:(List ai)->Prop)(hm:VC83 s_ line at_ Q):
  Bf Tryz.prog 83 #[.string (bs s_),.int .i64 line,.int .i64 at_] eN w0 X0 (λw X' v=>∃r,Q r/\∃Zf Zd,v=.slice Zf r.length Zd/\RS Ep w X' Zf r Zd):=by
 unfold VC83 iF bD lN wI dE at hm;refine enter Tryz.func83 rfl (vals:=[.string (bs s_),.int .i64 line,.int .i64 at_]) kr ?_;intro Y a hS hO hM;refine D9 T hS [] [] λa hS=>?_;obtain⟨adt,aec,ahI,aeb,hmf,Lu,ZO⟩:=hm;refine Q3 (σ:=(List ai)×Int×Int) 0 1 (λl s a w=>∃Y X vM vK,(bif Nat.beq l 1 then ahI s.1 s.2.1 s.2.2 else adt s.1 s.2.1 s.2.2)/\St Tryz.f83.ntmps ⟨[(0,Z s_),(1,I line),(2,I at_),(7,Sl vM s.1 vK),(8,I s.2.1),(9,I s.2.2)],[]⟩ Y a w X/\Old w0 X0 w X/\OS Ep 106 w X 1007 vM s.1 vK) (λl s=>(bif Nat.beq l 1 then aeb s.1 s.2.1 s.2.2 else aec s.1 s.2.1 s.2.2)) (by rfl) (by rfl) (by rfl) ?_ (λH1=>?_) (λH0 H1=>?_)
 .rintro⟨ur,kb,rI⟩ a aoU ⟨Y,as0,vM,vK,hI,hS,hO,h104⟩;replace hm:=ZO ur kb rI hI;clear hI hmf Lu ZO;refine Y0 rfl ?_;refine D9 T hS [] [(8,I (IntKind.i64.wrap (kb+1)))] λa hS=>?_;refine xd ?_;refine Q9 (λa w=>∃(Y:Nat->Nat)(X:Nat->Nat)(FK:List ai)(x8:Bool)(Vv:Option Addr)(Vg:Nat),VC83_J1 s_ line at_ adt aec ahI aeb ur kb rI FK x8/\St Tryz.f83.ntmps ⟨[(0,Z s_),(1,I line),(2,I at_),(7,Sl Vv FK Vg),(8,I (IntKind.i64.wrap (kb+1))),(9,I rI),(41,B x8)],[]⟩ Y a w X/\Old w0 X0 w X/\OS Ep 106 w X 1007 Vv FK Vg) ?_ ?_
  .refine region ?_;refine M5 T hS 5 [] [(35,B (decide ((IntKind.i64.wrap (kb+1))<((s_.length:Nat):Int))))] λa hS=>?_;rcases Bool.eq_false_or_eq_true (decide ((IntKind.i64.wrap (kb+1))<((s_.length:Nat):Int)))with hb|hb
   .replace hS:=hS.lit (t:=35) kr hb;replace hm:=hm.1 hb;refine M5 T hS 2 [] [(36,Z s_),(37,I (IntKind.i64.wrap (kb+1)))] λa hS=>?_;obtain⟨hq,hm⟩:=hm;refine A6 (RE (k:=.i64) T hS kr kr kr kr kr hq.1 hq.2 ?_);intro a hS;refine A6 (call hS kr kr hb136 kr (λ_ _=>rfl) (af0 _ _ ([32,9,13]:List UInt8) ((gi s_ (IntKind.i64.wrap (kb+1))).toNat:Int)) ?_);intro v127 a aoZ as4 hE hp hS;replace hO:=hO.mv hE rfl rfl;replace h104:=h104.mv hE rfl rfl;obtain⟨aaP,hr⟩:∃r,strings_IndexByte ([32,9,13]:List UInt8) ((gi s_ (IntKind.i64.wrap (kb+1))).toNat:Int)=r:=⟨_,rfl⟩
    replace hm:=hm aaP hr;rw[hr]at hp;clear hr;subst hp;refine P6 T hS [35,36,37,38,39] [(41,B (decide (aaP<0)))] λa hS=>?_;exact⟨Y,_,ur,decide (aaP<0),vM,vK,hm,hS.sl _,hO,h104⟩
   replace hS:=hS.lit (t:=35) kr hb;replace hm:=hm.2 hb;refine P6 T hS [35] [(41,B false)] λa hS=>?_;exact⟨Y,_,ur,false,vM,vK,hm,hS.sl _,hO,h104⟩
  rintro a aoX ⟨Y,as3,FK,x8,Vv,Vg,hm,hS,hO,h116⟩;unfold VC83_J1 iF lN wI at hm;refine qy hS (b:=x8) kr (λhb=>?_) λhb=>?_
  .replace hm:=hm.1 hb;refine Q6 (by rfl) ?_;exact⟨⟨FK,IntKind.i64.wrap (kb+1),rI⟩,⟨Y,_,Vv,Vg,hm.1,hS.sl _,hO,h116⟩,hm.2⟩
  replace hm:=hm.2 hb;refine wR ?_;refine ON ?_;refine M5 T hS 8 [41] [(42,Sl Vv FK Vg),(43,I line),(46,I (IntKind.i64.wrap (at_+rI))),(47,Z s_),(48,I rI),(49,I (IntKind.i64.wrap (kb+1)))] λa hS=>?_;obtain⟨hq,hm⟩:=hm;refine A6 (Wp (kl:=.i64) (kh:=.i64) (s:=s_) T hS kr kr kr kr kr kr hq.1 hq.2.1 hq.2.2 ?_);intro a hS;refine M5 T hS 1 [43,46,47,48,49,50] [(51,V (.agg #[.int .i64 line,.int .i64 (IntKind.i64.wrap (at_+rI)),.string (bs ((s_.take (IntKind.i64.wrap (kb+1)).toNat).drop rI.toNat))]))] λa hS=>?_;refine A6 (lit (E:=106) (dt:=0) (T:=Ep) (vals:=[.agg #[.int .i64 line,.int .i64 (IntKind.i64.wrap (at_+rI)),.string (bs ((s_.take (IntKind.i64.wrap (kb+1)).toNat).drop rI.toNat))]]) (ys:=[(⟨line,IntKind.i64.wrap (at_+rI),((s_.take (IntKind.i64.wrap (kb+1)).toNat).drop rI.toNat)⟩:ai)]) T hS kr kr kr kr (by exact⟨rfl,trivial⟩) rfl kr kr kr kr ?_);intro b118 a ao4 as9 hE h121 hN hS;clear hN;replace hO:=hO.mv hE rfl rfl;replace h116:=h116.mv hE rfl rfl;replace h121:=h121.rs0;obtain⟨hq,hm⟩:=hm;obtain⟨news,hN⟩:=h121.src;refine A6 (append (E:=106) (T:=Ep) (dt:=1007) (xs:=FK) T hS kr kr kr kr h116 hN kr kr kr kr hq ?_);intro ahC ahq a ao2 as7 hE h124 hS;clear hq hN;clear h116;replace hO:=hO.mv hE rfl rfl;replace h121:=h121.mv hE rfl;refine P6 T hS [51,52,53] [(7,Sl ahC (FK++[(⟨line,IntKind.i64.wrap (at_+rI),((s_.take (IntKind.i64.wrap (kb+1)).toNat).drop rI.toNat)⟩:ai)]) ahq)] λa hS=>?_;refine Q6 (by rfl) ?_;exact⟨⟨FK++[(⟨line,IntKind.i64.wrap (at_+rI),((s_.take (IntKind.i64.wrap (kb+1)).toNat).drop rI.toNat)⟩:ai)],IntKind.i64.wrap (kb+1),rI⟩,⟨Y,_,ahC,ahq,hm.1,hS.sl _,hO,h124⟩,hm.2⟩
 .rintro⟨ur,kb,rI⟩ a aoT ⟨Y,asZ,vM,vK,hI,hS,hO,h104⟩;replace hm:=Lu ur kb rI hI;clear hI hmf Lu ZO;refine Y0 rfl ?_;refine xd ?_;refine D9 T hS [] [(19,B (kb==((s_.length:Nat):Int)))] λa hS=>?_;refine qy hS (b:=(kb==((s_.length:Nat):Int))) kr (λhb=>?_) λhb=>?_
  .replace hm:=hm.1 hb;refine D9 T hS [0,1,2,7,8,9,19] [(6,Sl vM ur vK)] λa hS=>?_;refine QW ?_;obtain⟨amY,hE,hF⟩:=h104.freeze (by decide);replace hS:=hS.ev hE (jC kr);replace hO:=hO.mv hE rfl rfl;have h108:=hF;clear hE hF;exact fin T hS hO (λc=>c) rfl (r:=[.slice vM ur.length vK]) kr (λX' hM hC=>⟨ur,hm,vM,vK,rfl,h108.m0 hM⟩)
  replace hm:=hm.2 hb;refine wR (xd ?_);refine ON ?_;refine M5 T hS 2 [19] [(21,Z s_),(22,I kb)] λa hS=>?_;obtain⟨hq,hm⟩:=hm;refine A6 (RE (k:=.i64) T hS kr kr kr kr kr hq.1 hq.2 ?_);intro a hS;refine A6 (call hS kr kr hb136 kr (λ_ _=>rfl) (af0 _ _ ([32,9,13]:List UInt8) ((gi s_ kb).toNat:Int)) ?_);intro v109 a ao5 amX hE hp hS;replace hO:=hO.mv hE rfl rfl;replace h104:=h104.mv hE rfl rfl;obtain⟨aaQ,hr⟩:∃r,strings_IndexByte ([32,9,13]:List UInt8) ((gi s_ kb).toNat:Int)=r:=⟨_,rfl⟩
  replace hm:=hm aaQ hr;rw[hr]at hp;clear hr;subst hp;refine P6 T hS [21,22,23,24] [(25,B (decide (aaQ≥0)))] λa hS=>?_;refine qy hS (b:=decide (aaQ≥0)) kr (λhb=>?_) λhb=>?_
  .replace hm:=hm.1 hb;refine D9 T hS [25] [(8,I (IntKind.i64.wrap (kb+1)))] λa hS=>?_;refine Q6 (by rfl) ?_;exact⟨⟨ur,IntKind.i64.wrap (kb+1),rI⟩,⟨Y,_,vM,vK,hm.1,hS.sl _,hO,h104⟩,hm.2⟩
  replace hm:=hm.2 hb;refine wR ?_;refine D9 T hS [25] [(9,I kb)] λa hS=>?_;refine xd ?_;refine Q4 ?_;exact Y3 H1 ⟨ur,kb,kb⟩ ⟨Y,_,vM,vK,hm.1,hS.sl _,hO,h104⟩ (λ_ hx=>dH hx hm.2)
 replace hm:=hmf;clear hmf Lu ZO;refine D9 T hS [] [(7,V (.slice none 0 0))] λa hS=>?_;refine D9 T hS [] [(8,I 0),(9,I 0)] λa hS=>?_;refine xd ?_;refine Q9 (λa w=>∃(Y:Nat->Nat)(X:Nat->Nat)(D2:Bool),VC83_J2 Q adt D2/\St Tryz.f83.ntmps ⟨[(0,Z s_),(1,I line),(2,I at_),(7,V (.slice none 0 0)),(8,I 0),(9,I 0),(15,B D2)],[]⟩ Y a w X/\Old w0 X0 w X) ?_ ?_
 .refine region ?_;refine M5 T hS 3 [] [(12,B (s_==([99]:List UInt8)))] λa hS=>?_;rcases Bool.eq_false_or_eq_true (s_==([99]:List UInt8))with hb|hb
  .replace hS:=hS.lit (t:=12) kr hb;replace hm:=hm.1 hb;refine P6 T hS [12] [(15,B true)] λa hS=>?_;exact⟨Y,_,true,hm,hS.sl _,hO⟩
  replace hS:=hS.lit (t:=12) kr hb;replace hm:=hm.2 hb;refine M5 T hS 1 [] [(13,Z s_)] λa hS=>?_;obtain⟨hq,hm⟩:=hm;refine A6 (call hS kr kr hb135 kr (λ_ _=>rfl) (alw _ _ s_ ([99,32]:List UInt8) hq) ?_);intro v134 a aoW as2 hE hp hS;replace hO:=hO.mv hE rfl rfl;obtain⟨aaO,hr⟩:∃r,fX s_ ([99,32]:List UInt8)=r:=⟨_,rfl⟩
  replace hm:=hm aaO hr;rw[hr]at hp;clear hr;subst hp;refine P6 T hS [12,13,14] [(15,B aaO)] λa hS=>?_;exact⟨Y,_,aaO,hm,hS.sl _,hO⟩
 rintro a aoV ⟨Y,as1,D2,hm,hS,hO⟩;unfold VC83_J2 iF at hm;refine qy hS (b:=D2) kr (λhb=>?_) λhb=>?_
 .replace hm:=hm.1 hb;refine D9 T hS [0,1,2,7,8,9,15] [(6,V (.slice none 0 0))] λa hS=>?_;refine QW ?_;exact fin T hS hO (λc=>c) rfl (r:=[.slice none 0 0]) kr (λX' hM hC=>⟨[],hm,none,0,rfl,RS.empty _ _ _⟩)
 replace hm:=hm.2 hb;refine wR (xd ?_);refine Q4 ?_;exact Y3 H0 ⟨[],0,0⟩ ⟨Y,_,none,0,hm,hS.sl _,hO,(OS.nil _ _ _ _ _)⟩ (λ_ _=>trivial)
theorem W176(w0)(X0)(hints:List Int)(a1)(c1)(Q:(List Int)×(List (List Int))->Prop)(hm:VC176 hints Q)(h1:RS tI w0 X0 a1 hints c1):
  Bf Tryz.prog 176 #[.slice a1 hints.length c1] eN w0 X0 (λw X' v=>∃r,Q r/\∃Zf Zd ra2 rc2,v=.tuple #[.slice Zf r.1.length Zd,.slice ra2 r.2.length rc2]/\RS tI w X' Zf r.1 Zd/\RS (tg tI) w X' ra2 r.2 rc2):=by
 unfold VC176 iF bD lN wI dE IH at hm;replace hm:=hm (h1.sm kr);refine enter Tryz.func176 rfl (vals:=[.slice a1 hints.length c1]) kr ?_;intro Y a hS hO hM;replace h1:=h1.m0 hM;refine D9 T hS [] [(2,V (.slice none 0 0)),(3,V (.slice none 0 0))] λa hS=>?_;refine Q9 (λa w=>∃(Y:Nat->Nat)(X:Nat->Nat)(ur:List Int)(kb:List (List Int)) (vM:Option Addr) (vK:Nat) (Vw:Option Addr) (vs107:List Value) (Vh:Nat),VC176_J1 Q ur kb/\St Tryz.f176.ntmps ⟨[(2,Sl vM ur vK),(3,Sl Vw kb Vh)],[]⟩ Y a w X/\Old w0 X0 w X/\OS tI 3 w X 1003 vM ur vK/\OS F3 42 w X 1004 Vw vs107 Vh/\RW tI 3 w X 1990 vs107 kb) ?_ ?_
 .refine D9 T hS [0] [(7,Sl a1 hints c1),(8,I ((hints.length:Nat):Int)),(9,I 0)] λa hS=>?_;refine zo ?_;obtain⟨I1,μ1,Lu,hm⟩:=hm;refine Q2 (σ:=(List Int)×(List (List Int))×Int) (λs a w=>∃(Y:Nat->Nat)(X:Nat->Nat)(L7:Option Addr)(L3:Nat)(qt:Option Addr)(vs123:List Value)(qm:Nat),I1 s.1 s.2.1 s.2.2/\St Tryz.f176.ntmps ⟨[(2,Sl L7 s.1 L3),(3,Sl qt s.2.1 qm),(7,Sl a1 hints c1),(8,I ((hints.length:Nat):Int)),(9,I s.2.2)],[]⟩ Y a w X/\Old w0 X0 w X/\OS tI 3 w X 1003 L7 s.1 L3/\OS F3 42 w X 1004 qt vs123 qm/\RW tI 3 w X 1990 vs123 s.2.1/\RS tI w X a1 hints c1) (λs=>μ1 s.1 s.2.1 s.2.2) (⟨[],[],0⟩) ?_ ?_
  .exact⟨Y,_,none,0,none,[],0,Lu,hS.sl _,hO,(OS.nil _ _ _ _ _),(OS.nil _ _ _ _ _),(RW.nil _ _ _ _ _),h1⟩
  rintro⟨x8,fP,kf⟩ a aoI ⟨Y,asP,L7,L3,qt,vs123,qm,hI,hS,hO,h120,h125,h126,h127⟩;replace hm:=hm x8 fP kf hI;clear hI Lu;refine D9 T hS [] [(10,B (decide (kf<((hints.length:Nat):Int))))] λa hS=>?_;refine xd ?_;refine qy hS (b:=decide (kf<((hints.length:Nat):Int))) kr (λhb=>?_) λhb=>?_
  .replace hm:=hm.1 hb;refine wR ?_;refine Q9 (λa w=>∃(Y:Nat->Nat)(X:Nat->Nat)(QU:List Int)(D2:List (List Int)) (a130:Option Addr) (YF:Nat) (YS:Option Addr) (vs135:List Value) (YE:Nat),VC176_J2 I1 μ1 x8 fP kf QU D2/\St Tryz.f176.ntmps ⟨[(2,Sl a130 QU YF),(3,Sl YS D2 YE),(7,Sl a1 hints c1),(8,I ((hints.length:Nat):Int)),(9,I kf)],[]⟩ Y a w X/\Old w0 X0 w X/\OS tI 3 w X 1003 a130 QU YF/\OS F3 42 w X 1004 YS vs135 YE/\RW tI 3 w X 1990 vs135 D2/\RS tI w X a1 hints c1) ?_ ?_
   .refine zo ?_;refine ON ?_;obtain⟨hq,hm⟩:=hm;refine A6 (index (e:=3) (k:=.i64) T hS kr kr kr kr h127 kr kr hq.1 hq.2 ?_);intro att a h141 hS;refine A6 (afj T hS kr kr kr h141 rfl kr ?_);intro v142 a hv hS;cases hv;refine P6 T hS [10,11,12] [(5,I (gi hints kf))] λa hS=>?_;refine D9 T hS [] [(6,I (IntKind.i64.wrap (((fP.length:Nat):Int)-1)))] λa hS=>?_;refine zo ?_;refine D9 T hS [] [(26,B (decide ((gi hints kf)<0)))] λa hS=>?_;refine qy hS (b:=decide ((gi hints kf)<0)) kr (λhb=>?_) λhb=>?_
    .replace hm:=hm.1 hb;refine region ?_;refine M5 T hS 2 [5,6,26] [(29,Sl qt fP qm),(30,I (gi hints kf))] λa hS=>?_;obtain⟨asY,hE,hF⟩:=h126.freeze (by decide);clear h126;replace hS:=hS.ev hE (jC kr);replace hO:=hO.mv hE rfl rfl;replace h120:=h120.mv hE rfl rfl;replace h125:=h125.mv hE rfl rfl;replace h127:=h127.mv hE rfl;have h144:=hF;clear hE hF;refine A6 (lit (E:=3) (dt:=1990) (T:=tI) (vals:=[.int .i64 (gi hints kf)]) (ys:=[gi hints kf]) T hS kr kr kr kr (by exact⟨rfl,trivial⟩) rfl kr kr kr kr ?_);intro b145 a aoS asX hE h148 hN hS;clear hN;replace hO:=hO.mv hE rfl rfl;replace h120:=h120.mv hE rfl rfl;replace h125:=h125.mv hE rfl rfl;replace h127:=h127.mv hE rfl;replace h144:=h144.mv hE rfl;refine A6 (lit (E:=42) (dt:=0) (T:=F3) (vals:=[.slice (some ⟨b145,0,none⟩) [gi hints kf].length 1]) (ys:=[.slice (some ⟨b145,0,none⟩) [gi hints kf].length 1]) T hS kr kr kr kr (by exact⟨⟨rfl,rfl⟩,trivial⟩) rfl kr kr kr kr ?_);intro b149 a aoR asW hE h152 hN hS;clear hN;replace hO:=hO.mv hE rfl rfl;replace h120:=h120.mv hE rfl rfl;replace h125:=h125.mv hE rfl rfl;replace h127:=h127.mv hE rfl;replace h144:=h144.mv hE rfl;replace h148:=h148.mv hE rfl rfl;replace h152:=h152.rs0;obtain⟨hq,hm⟩:=hm;have hRF:=h144;replace hS:=hS.conv (t:=29) (x:=.slice qt fP.length qm) (y:=.slice qt vs123.length qm) kr (by rw[hRF.len]);have XJ:=hRF.len;obtain⟨news,hN⟩:=h152.src;refine A6 (append (E:=42) (T:=F3) (dt:=1004) (xs:=vs123) (ys:=[Value.slice (some ⟨b145,0,none⟩) [gi hints kf].length 1]) T hS kr kr kr kr h125 hN kr kr kr kr (by rw[XJ];exact hq) ?_);intro a157 YD a aoQ asV hE h155 hS;clear hq hN;clear h125 h144;replace hO:=hO.mv hE rfl rfl;replace h120:=h120.mv hE rfl rfl;replace h127:=h127.mv hE rfl;replace h148:=h148.mv hE rfl rfl;replace h152:=h152.mv hE rfl;replace hRF:=hRF.mv hE rfl;have h156:=RF.push rfl h148 hRF;clear hRF XJ h148;replace hS:=hS.conv (t:=33) (x:=.slice a157 (vs123++[Value.slice (some ⟨b145,0,none⟩) [gi hints kf].length 1]).length YD) (y:=.slice a157 (fP++[[gi hints kf]]).length YD) kr (by rw[h156.len]);refine P6 T hS [30,33] [(3,Sl a157 (fP++[[gi hints kf]]) YD)] λa hS=>?_;exact⟨Y,_,x8,fP++[[gi hints kf]],L7,L3,a157,(vs123++[Value.slice (some ⟨b145,0,none⟩) [gi hints kf].length 1]),YD,hm,hS.sl _,hO,h120,h155,h156,h127⟩
    replace hm:=hm.2 hb;refine D9 T hS [26] [(34,B (decide ((IntKind.i64.wrap (((fP.length:Nat):Int)-1))<0)))] λa hS=>?_;refine qy hS (b:=decide ((IntKind.i64.wrap (((fP.length:Nat):Int)-1))<0)) kr (λhb=>?_) λhb=>?_
    .replace hm:=hm.1 hb;refine region ?_;refine M5 T hS 2 [5,6,34] [(37,Sl L7 x8 L3),(38,I (gi hints kf))] λa hS=>?_;refine A6 (lit (E:=3) (dt:=0) (T:=tI) (vals:=[.int .i64 (gi hints kf)]) (ys:=[gi hints kf]) T hS kr kr kr kr (by exact⟨rfl,trivial⟩) rfl kr kr kr kr ?_);intro b159 a aoO asU hE h162 hN hS;clear hN;replace hO:=hO.mv hE rfl rfl;replace h120:=h120.mv hE rfl rfl;replace h125:=h125.mv hE rfl rfl;replace h126:=h126.mv hE rfl rfl;replace h127:=h127.mv hE rfl;replace h162:=h162.rs0;obtain⟨hq,hm⟩:=hm;obtain⟨news,hN⟩:=h162.src;refine A6 (append (E:=3) (T:=tI) (dt:=1003) (xs:=x8) T hS kr kr kr kr h120 hN kr kr kr kr hq ?_);intro ahB ahp a aoN asT hE h165 hS;clear hq hN;clear h120;replace hO:=hO.mv hE rfl rfl;replace h125:=h125.mv hE rfl rfl;replace h126:=h126.mv hE rfl rfl;replace h127:=h127.mv hE rfl;replace h162:=h162.mv hE rfl;refine P6 T hS [38,39,40] [(2,Sl ahB (x8++[gi hints kf]) ahp)] λa hS=>?_;exact⟨Y,_,x8++[gi hints kf],fP,ahB,ahp,qt,vs123,qm,hm,hS.sl _,hO,h165,h125,h126,h127⟩
    replace hm:=hm.2 hb;refine region ?_;refine M5 T hS 4 [6,34] [(16,Sl qt fP qm),(17,I (IntKind.i64.wrap (((fP.length:Nat):Int)-1))),(18,Sl qt fP qm),(19,I (IntKind.i64.wrap (((fP.length:Nat):Int)-1)))] λa hS=>?_;obtain⟨Nt,hm⟩:=hm;have NA:vs123.length=fP.length:=h126.len;replace hS:=hS.conv (t:=18) (x:=.slice qt fP.length qm) (y:=.slice qt vs123.length qm) kr (by rw[NA]);refine A6 (T7 (E:=42) (k:=.i64) (T:=F3) (xs:=vs123) T hS kr kr kr kr h125 kr kr Nt.1 (by have:=Nt.2;rw[NA];omega) ?_);intro atr a h169 h170 hS;replace hS:=hS.conv (t:=18) (x:=.slice qt vs123.length qm) (y:=.slice qt fP.length qm) kr (by rw[NA]);clear NA;refine A6 (aby T hS kr kr kr h170 rfl kr ?_);intro v173 a hv hS;clear h170 h169;obtain⟨hv,-⟩:=hv;injection hv with hv _;subst hv;obtain⟨vs174,a175,Vf,j7,h177,h178,eg⟩:=h126.abf Nt.1 Nt.2;rw[eg]at hS;clear h126;subst j7;clear eg;refine M5 T hS 1 [5,18,19] [(22,I (gi hints kf))] λa hS=>?_;refine A6 (lit (E:=3) (dt:=0) (T:=tI) (vals:=[.int .i64 (gi hints kf)]) (ys:=[gi hints kf]) T hS kr kr kr kr (by exact⟨rfl,trivial⟩) rfl kr kr kr kr ?_);intro b179 a aoM asS hE h182 hN hS;clear hN;replace hO:=hO.mv hE rfl rfl;replace h120:=h120.mv hE rfl rfl;replace h125:=h125.mv hE rfl rfl;replace h127:=h127.mv hE rfl;replace h177:=h177.mv hE rfl;replace h178:=h178.mv hE rfl rfl;replace h182:=h182.rs0;obtain⟨hq,hm⟩:=hm;obtain⟨news,hN⟩:=h182.src;refine A6 (append (E:=3) (T:=tI) (dt:=1990) (xs:=gi fP (IntKind.i64.wrap (((fP.length:Nat):Int)-1))) T hS kr kr kr kr h178 hN kr kr kr kr hq ?_);intro adq adk a aoL asR hE h185 hS;clear hq hN;clear h178;replace hO:=hO.mv hE rfl rfl;replace h120:=h120.mv hE rfl rfl;replace h125:=h125.mv hE rfl rfl;replace h127:=h127.mv hE rfl;replace h177:=h177.mv hE rfl;replace h182:=h182.mv hE rfl;obtain⟨w7,hm⟩:=hm;have Nz:(vs174++[Value.slice a175 (gi fP (IntKind.i64.wrap (((fP.length:Nat):Int)-1))).length Vf]).length=fP.length:=(by have h9:=h177.len;have h8:=w7.1;have h7:=w7.2;simp at h9 ⊢; omega)
    replace hS:=hS.conv (t:=16) (x:=.slice qt fP.length qm) (y:=.slice qt (vs174++[Value.slice a175 (gi fP (IntKind.i64.wrap (((fP.length:Nat):Int)-1))).length Vf]).length qm) kr (by rw[Nz]);refine A6 (T7 (E:=42) (k:=.i64) (T:=F3) (xs:=vs174++[Value.slice a175 (gi fP (IntKind.i64.wrap (((fP.length:Nat):Int)-1))).length Vf]) T hS kr kr kr kr h125 kr kr w7.1 (by have:=w7.2;rw[Nz];omega) ?_);intro atq a h189 h190 hS;replace hS:=hS.conv (t:=16) (x:=.slice qt (vs174++[Value.slice a175 (gi fP (IntKind.i64.wrap (((fP.length:Nat):Int)-1))).length Vf]).length qm) (y:=.slice qt fP.length qm) kr (by rw[Nz]);clear Nz;have XJ:(IntKind.i64.wrap (((fP.length:Nat):Int)-1)).toNat=vs174.length:=by have h9:=h177.len;have h8:=w7.1;have h7:=w7.2;simp at h9;omega
    refine A6 (BP (x:=Value.slice adq ((gi fP (IntKind.i64.wrap (((fP.length:Nat):Int)-1)))++[gi hints kf]).length adk) (v:=V (Value.slice adq ((gi fP (IntKind.i64.wrap (((fP.length:Nat):Int)-1)))++[gi hints kf]).length adk)) (i:=(IntKind.i64.wrap (((fP.length:Nat):Int)-1)).toNat) (E:=42) (xs:=vs174++[Value.slice a175 (gi fP (IntKind.i64.wrap (((fP.length:Nat):Int)-1))).length Vf]) (T:=F3) T hS kr kr kr kr h125 h189 (by simp;omega) kr (λ_ _ _=>⟨rfl,rfl⟩) ?_);intro a aoK hE h194 hS;clear h125 h189 h190;replace hO:=hO.mv hE rfl rfl;replace h120:=h120.mv hE rfl rfl;replace h127:=h127.mv hE rfl;replace h177:=h177.mv hE rfl;replace h182:=h182.mv hE rfl;replace h185:=h185.mv hE rfl rfl;rw[RG XJ]at h194;have h195:=RF.push rfl h185 h177;clear h185 h177 XJ;replace hS:=hS.conv (t:=3) (x:=.slice qt fP.length qm) (y:=.slice qt (fP.dropLast++[(gi fP (IntKind.i64.wrap (((fP.length:Nat):Int)-1)))++[gi hints kf]]).length qm) kr (by have h8:=w7.1;have h7:=w7.2;congr 1;simp<;>omega);replace hS:=hS.conv (t:=16) (x:=.slice qt fP.length qm) (y:=.slice qt (fP.dropLast++[(gi fP (IntKind.i64.wrap (((fP.length:Nat):Int)-1)))++[gi hints kf]]).length qm) kr (by have h8:=w7.1;have h7:=w7.2;congr 1;simp<;>omega);refine ahf ?_;exact⟨Y,_,x8,fP.dropLast++[(gi fP (IntKind.i64.wrap (((fP.length:Nat):Int)-1)))++[gi hints kf]],L7,L3,qt,(vs174++[Value.slice adq ((gi fP (IntKind.i64.wrap (((fP.length:Nat):Int)-1)))++[gi hints kf]).length adk]),qm,hm,hS.sl _,hO,h120,h194,h195,h127⟩
   rintro a aoJ ⟨Y,asQ,QU,D2,a130,YF,YS,vs135,YE,hm,hS,hO,h132,h137,h138,h139⟩;unfold VC176_J2 wI GD at hm;refine region (P6 T hS [] [(9,I (IntKind.i64.wrap (kf+1)))] λa hS=>?_);exact⟨⟨QU,D2,IntKind.i64.wrap (kf+1)⟩,⟨Y,_,a130,YF,YS,vs135,YE,hm.1,hS.sl _,hO,h132,h137,h138,h139⟩,hm.2⟩
  replace hm:=hm.2 hb;refine Q8 (by rfl) ?_;exact⟨Y,_,x8,fP,L7,L3,qt,vs123,qm,hm,hS.sl _,hO,h120,h125,h126⟩
 rintro a aoH ⟨Y,asO,ur,kb,vM,vK,Vw,vs107,Vh,hm,hS,hO,h104,h109,h110⟩;unfold VC176_J1 at hm;refine D9 T hS [] [] λa hS=>?_;refine QW ?_;obtain⟨amX,hE,hF⟩:=h110.freeze (by decide);clear h110;replace hS:=hS.ev hE (jC kr);replace hO:=hO.mv hE rfl rfl;replace h104:=h104.mv hE rfl rfl;replace h109:=h109.mv hE rfl rfl;have h112:=RF.rows h109 hF;clear hE hF h109;obtain⟨atb,hE,hF⟩:=h104.freeze (by decide);replace hS:=hS.ev hE (jC kr);replace hO:=hO.mv hE rfl rfl;replace h112:=h112.mv hE rfl rfl;have h114:=hF;clear hE hF;obtain⟨ata,hE,hF⟩:=h112.freeze (by decide);replace hS:=hS.ev hE (jC kr);replace hO:=hO.mv hE rfl rfl;replace h114:=h114.mv hE rfl;have h116:=hF;clear hE hF;exact fin T hS hO (λc=>c) rfl (r:=[.slice vM ur.length vK,.slice Vw kb.length Vh]) kr (λX' hM hC=>⟨(ur,kb),hm,vM,vK,Vw,Vh,rfl,h114.m0 hM,h116.m0 hM⟩)
end
end Go.Proofs.Y
namespace Go.Proofs.Y
open Go Go.Sv Go.Pu
section
theorem UJ{α:Type}[Inhabited α]{a b:List α}(hl:a.length=b.length)(h:∀j:Int,0<=j->j<a.length->gi a j=gi b j):a=b:=by
 apply List.ext_getElem hl;intro i h1 h2;have:=h i (by omega) (by omega);grind[dM]
theorem wz{α:Type}[Inhabited α]{l:List α}{i:Nat}(h:i<l.length):l.drop i=gi l (i:Int)::l.drop (i+1):=by
 grind[dM,List.drop_eq_getElem_cons]
theorem G9{α:Type}[Inhabited α]{l:List α}{f:α->Bool}{i:Int}(h0:0<=i)(h1:i<l.length)(h:f (gi l i)=true)(h2:∀j:Int,0<=j->j<i->f (gi l j)=false):l.findIdx? f=some i.toNat:=by
 rw[List.findIdx?_eq_some_iff_getElem];refine⟨by omega,?_,λj hj=>?_⟩
 .rw[kR h0 h1]at h;exact h
 .have:=h2 j (by omega) (by omega);rw[dM _ _ (by omega)]at this;simp[this]
theorem G8{α:Type}[Inhabited α]{l:List α}{f:α->Bool}(h2:∀j:Int,0<=j->j<l.length->f (gi l j)=false):l.findIdx? f=none:=by
 rw[List.findIdx?_eq_none_iff];intro x hx;obtain⟨i,hi,rfl⟩:=nO hx;have:=h2 i (by omega) (by omega);grind[dM]
theorem Jt{α:Type}[Inhabited α]{l:List α}{f:α->Bool}{i:Int}(h0:0<=i)(h1:i<l.length)(h:f (gi l i)=true)(h2:∀j:Int,0<=j->j<i->f (gi l j)=false):l.find? f=some (gi l i):=by
 rw[List.find?_eq_some_iff_getElem];refine⟨h,i.toNat,by omega,?_,λj hj=>?_⟩
 .rw[kR h0 h1]
 .have:=h2 j (by omega) (by omega);rw[dM _ _ (by omega)]at this;simp[this]
theorem Js{α:Type}[Inhabited α]{l:List α}{f:α->Bool}(h2:∀j:Int,0<=j->j<l.length->f (gi l j)=false):l.find? f=none:=by
 rw[List.find?_eq_none];intro x hx;obtain⟨i,hi,rfl⟩:=nO hx;have:=h2 i (by omega) (by omega);grind[dM]
theorem v59(o:ae):VC59 o (λr=>r=cr o):=by
 unfold VC59 iF bD lN wI dE oM;intro A7;simp only[sm]at A7;simp only[dS,aR,cO,bp];refine⟨λh=>?_,λh=>?_⟩
 .unfold cr;rw[if_pos (by unfold iX;omega)]
 .have e:cr o=gC o o.Rows.length 0:=by unfold cr;rw[if_neg (by unfold iX;omega)]
  rw[e];refine⟨λx=>∃k f:Nat,x=k/\k+f=o.Rows.length/\gC o f k=gC o o.Rows.length 0,λx=>(o.Rows.length-x).toNat,⟨0,o.Rows.length,rfl,by omega,rfl⟩,?_⟩;rintro _ ⟨k,f,rfl,hkf,rp⟩;refine⟨λhx=>⟨⟨by omega,hx⟩,?_⟩,λhx=>?_⟩
  .obtain⟨f,rfl⟩:∃j,f=j+1:=⟨f-1,by omega⟩
   rw[gC]at rp;have bad:∀e,iK o k=e->e≠0->((k:Int),e)=gC o o.Rows.length 0:=by rintro e rfl he;rw[←rp,if_pos he]
   refine⟨λh1=>bad 30 (by unfold iK;rw[if_pos (by omega)]) (by decide),λh1=>⟨λh2=>bad 31 (by unfold iK;rw[if_neg (by omega),if_pos (by omega)]) (by decide),λh2=>⟨λh3=>bad 7 (by unfold iK;rw[if_neg (by omega),if_neg (by omega),if_pos (by omega)]) (by decide),λh3=>?_⟩⟩⟩;have j2:∀b,(b=true↔lq o k)->VC59_J2 (λr=>r=gC o o.Rows.length 0) (λx=>∃k f:Nat,x=k/\k+f=o.Rows.length/\gC o f k=gC o o.Rows.length 0) (λx=>(o.Rows.length-x).toNat) k b:=by
    intro b hb;unfold VC59_J2 iF wI oK;refine⟨λh=>bad 32 (by unfold iK;rw[if_neg (by omega),if_neg (by omega),if_neg (by omega),if_pos (hb.mp h)]) (by decide),λh=>?_⟩;have hno:¬lq o k:=λh2=>by rw[hb.mpr h2]at h;cases h
    have h0:iK o k=0:=by unfold iK;rw[if_neg (by omega),if_neg (by omega),if_neg (by omega),if_neg hno]
    rw[if_neg (by omega)]at rp;rw[dj (by omega) (by omega)];exact⟨⟨k+1,f,by simp,by omega,rp⟩,by dsimp only;omega⟩
   refine⟨λh4=>?_,λh4=>j2 false ⟨(λh=>by cases h),λh=>by unfold lq at h;omega⟩⟩;rw[dj (n:=(k:Int)-1) (by omega) (by omega)];refine⟨⟨by omega,by omega⟩,λh5=>j2 true ⟨λ_=>⟨h4,Or.inl h5⟩,λ_=>rfl⟩,λh5=>⟨⟨by omega,by omega⟩,λh6=>⟨⟨by omega,by omega⟩,j2 _ ?_⟩,λh6=>j2 false ⟨(λh=>by cases h),λh=>?_⟩⟩⟩
   .rw[gJ]at h6;rw[aR];exact⟨λh=>⟨h4,Or.inr ⟨h6,h⟩⟩,λh=>by unfold lq at h;omega⟩
   .rw[pG]at h6;unfold lq at h;omega
  .have:f=0:=by omega
   subst this;unfold VC59_J1 lN;rw[←rp,gC];have:k=o.Rows.length:=by omega
   rw[this]
theorem v118(o:ae)(s k:Int):VC118 o s k (λr=>r=bN o s k):=by
 unfold VC118 iF bD lN dE oM;intro A7;simp only[sm]at A7;refine⟨λi=>0<=i/\i<=o.Rows.length/\∀j:Int,0<=j->j<i->((gi o.Rows j).State==s&&(gi o.Rows j).Kind==k)=false,λi=>(o.Rows.length-i).toNat,⟨by omega,by omega,λj h0 h1=>by omega⟩,?_⟩;rintro i ⟨h0,h1,h2⟩;have j2:i<o.Rows.length->∀b,b=((gi o.Rows i).State==s&&(gi o.Rows i).Kind==k)->VC118_J2 o (λr=>r=bN o s k) (λi=>0<=i/\i<=o.Rows.length/\∀j:Int,0<=j->j<i->((gi o.Rows j).State==s&&(gi o.Rows j).Kind==k)=false) (λi=>(o.Rows.length-i).toNat) i b:=by
  rintro hi b rfl;unfold VC118_J2 iF bD wI oK;refine⟨λhb=>⟨⟨h0,hi⟩,⟨h0,hi⟩,?_⟩,λhb=>?_⟩
  .unfold bN;rw[Jt (f:=λr:cJ=>r.State==s&&r.Kind==k) h0 hi hb h2]
  .rw[dj (by omega) (by omega)];refine⟨⟨by omega,by omega,λj j0 j1=>?_⟩,by dsimp only;omega⟩;by_cases hj:j<i
   .exact h2 j j0 hj
   .rw[show j=i by omega];exact hb
 refine⟨λhi=>?_,λhi=>?_⟩
 .rw[aR]at hi;refine⟨⟨h0,hi⟩,λhs=>⟨⟨h0,hi⟩,j2 hi _ (by rw[hs,jg])⟩,λhs=>j2 hi _ (by rw[hs,Bool.false_and])⟩
 .rw[bp]at hi;unfold VC118_J1 bN;rw[Js (f:=λr:cJ=>r.State==s&&r.Kind==k) (λj j0 j1=>h2 j j0 (by omega))]
theorem v277(r:cJ)(s k:Int):VC277 r s k (λx=>x=nU r s k):=by
 unfold VC277 nU;simp
theorem v278_277(l:List cJ)(s k:Int):VC278_277 l s k (λr=>r=bn l s k):=by
 unfold VC278_277 iF bD lN wI dE oM oK;intro hl;simp only[sm]at hl;refine⟨λi=>0<=i/\i<=l.length/\∀j:Int,0<=j->j<i->((gi l j).State==s&&(gi l j).Kind==k)=false,λi=>(l.length-i).toNat,⟨by omega,by omega,λj h0 h1=>by omega⟩,?_⟩;rintro i ⟨h0,h1,h2⟩;refine⟨λhi=>?_,λhi=>?_⟩
 .rw[aR]at hi;refine⟨⟨h0,hi⟩,?_⟩;rintro _ rfl;refine⟨λhe=>?_,λhe=>?_⟩
  .unfold bn;rw[G9 (f:=λr:cJ=>r.State==s&&r.Kind==k) h0 hi he h2];dsimp only;omega
  .rw[dj (by omega) (by omega)];refine⟨⟨by omega,by omega,λj j0 j1=>?_⟩,by dsimp only;omega⟩;by_cases hj:j<i
   .exact h2 j j0 hj
   .rw[show j=i by omega];exact he
 .rw[bp]at hi;unfold VC278_277_J1 bn;rw[G8 (f:=λr:cJ=>r.State==s&&r.Kind==k) (λj j0 j1=>h2 j j0 (by omega))]
theorem UQ{α:Type}[Inhabited α](l:List α)(f:α->Bool):l.find? f=(match l.findIdx? f with|some i=>some (gi l (i:Int))|none=>none):=by
 cases h:l.findIdx? f with
 |none=>rw[List.findIdx?_eq_none_iff]at h;rw[List.find?_eq_none.mpr (λx hx=>by simp[h x hx])]
 |some i=>grind[List.findIdx?_eq_some_iff_getElem,dM,List.find?_eq_some_iff_getElem]
theorem v212(o:ae)(s k:Int):VC212 o s k (λr=>r=oy o s k):=by
 unfold VC212 iF bD dE;intro _;rintro _ rfl;unfold oy bN bn;rw[UQ];cases h:o.Rows.findIdx? (λr=>r.State==s&&r.Kind==k)with
 |none=>exact⟨λ_=>rfl,λh=>by simp at h⟩
 |some i=>grind[List.findIdx?_eq_some_iff_getElem,only]
theorem v184(o:ae)(s k r:Int):VC184 o s k r (λx=>x=fm o s k r):=by
 unfold VC184 iF dE;intro _;simp only[dS,aR,cO,bp,eI,fJ,gq,nN];refine⟨λh=>by unfold fm;rw[if_pos h],λh=>?_⟩;rintro _ rfl;refine⟨λh2=>by unfold fm;rw[if_neg (by omega),if_pos h2],λh2=>?_⟩;unfold fm;grind
theorem v316(x:Int):VC316 x (λr=>r=cmp_isNaN_int x):=by
 unfold VC316 cmp_isNaN_int;simp
theorem v283(x y:Int):VC283 x y (λr=>r=fw x y):=by
 unfold VC283 iF dE;rintro _ rfl _ rfl;refine⟨(λh=>by cases h),λ_=>⟨(λh=>by cases h),λ_=>?_⟩⟩;simp only[aR,bp];unfold fw;omega
theorem v282(l:List Int):VC282 l (λr=>r=lX l):=by
 unfold VC282 iF bD lN wI dE oM oK;intro hl;simp only[sm]at hl;refine⟨λi=>0<=i/\i<=l.length/\∀j:Int,0<=j->j<i->(gi l j !=0)=false,λi=>(l.length-i).toNat,⟨by omega,by omega,λj h0 h1=>by omega⟩,?_⟩;rintro i ⟨h0,h1,h2⟩;refine⟨λhi=>?_,λhi=>?_⟩
 .rw[aR]at hi;refine⟨⟨h0,hi⟩,λhe=>?_,λhe=>?_⟩
  .unfold lX;rw[Jt (f:=λx=>x !=0) h0 hi he h2];rfl
  .rw[dj (by omega) (by omega)];refine⟨⟨by omega,by omega,λj j0 j1=>?_⟩,by dsimp only;omega⟩;by_cases hj:j<i
   .exact h2 j j0 hj
   .rw[show j=i by omega];exact he
 .rw[bp]at hi;unfold VC282_J1 lX;rw[Js (f:=λx=>x !=0) (λj j0 j1=>h2 j j0 (by omega))];rfl
theorem v216(a b:cJ):VC216 a b (λr=>r=mA a b):=by
 rintro _ rfl _ rfl _ rfl;rfl
theorem v132(n t:Int):VC132 n t (λr=>r=dk n t):=rfl
theorem within_iff(n t:Int):(dk n t=true↔0<=n/\n<t)/\(dk n t=false↔¬(0<=n/\n<t)):=by
 unfold dk;grind
theorem OW(a b:cJ):mA a b≥0↔(a.State>b.State∨(a.State=b.State/\a.Kind≥b.Kind)):=by
 unfold mA lX fw;rcases Int.lt_trichotomy a.State b.State with h|h|h
 .rw[if_pos h];simp;omega
 .rw[if_neg (by omega),if_neg (by omega)];rcases Int.lt_trichotomy a.Kind b.Kind with h2|h2|h2
  .rw[if_pos h2];simp;omega
  .rw[if_neg (by omega),if_neg (by omega)];simp;omega
  .rw[if_neg (by omega),if_pos h2];simp;omega
 grind
theorem v133(o:ae)(i:Int)(h:KR o i):VC133 o i (λr=>r=p8 o i):=by
 obtain⟨h0,h1⟩:=h;unfold VC133 p8 iF bD;intro A7;simp only[sm]at A7;refine⟨⟨h0,h1⟩,?_⟩;have j1:∀b,(b=true↔((gi o.Rows i).State<0∨(gi o.Rows i).State≥o.az∨(gi o.Rows i).Next<0∨(gi o.Rows i).Next≥o.az))->VC133_J1 o i (λr=>r=iK o i) b:=by
  intro b hb;unfold VC133_J1 iF bD wI dE;refine⟨λh=>by unfold iK;rw[if_pos (hb.mp h)],λh=>?_⟩;have g1:¬((gi o.Rows i).State<0∨(gi o.Rows i).State≥o.az∨(gi o.Rows i).Next<0∨(gi o.Rows i).Next≥o.az):=λh2=>by rw[hb.mpr h2]at h;cases h
  rintro _ rfl;rw[eI,nN,(within_iff _ _).1,(within_iff _ _).2];refine⟨λh2=>by unfold iK;rw[if_neg g1,if_pos (by omega)],λh2=>?_⟩;rintro _ rfl;rw[eI,nN,(within_iff _ _).1,(within_iff _ _).2];refine⟨λh3=>by unfold iK;rw[if_neg g1,if_neg (by omega),if_pos (by omega)],λh3=>?_⟩;have j2:∀b,(b=true↔lq o i)->VC133_J2 (λr=>r=iK o i) b:=by
   intro b hb;unfold VC133_J2 iF;refine⟨λh=>by unfold iK;rw[if_neg g1,if_neg (by omega),if_neg (by omega),if_pos (hb.mp h)],λh=>?_⟩;have hno:¬lq o i:=λh2=>by rw[hb.mpr h2]at h;cases h
   unfold iK;rw[if_neg g1,if_neg (by omega),if_neg (by omega),if_neg hno]
  refine⟨λh4=>?_,λh4=>j2 false ⟨(λh=>by cases h),λh=>by rw[bp]at h4;exact absurd h.1 h4⟩⟩;rw[aR]at h4;rw[dj (n:=i-1) (by omega) (by omega)];refine⟨⟨by omega,by omega⟩,?_⟩;rintro _ rfl;refine j2 _ ?_;rw[aR,OW];exact⟨λh=>⟨h4,h⟩,λh=>h.2⟩
 rintro _ rfl;rw[eI,nN,(within_iff _ _).1,(within_iff _ _).2];refine⟨λh2=>j1 true ⟨λ_=>by omega,λ_=>rfl⟩,λh2=>?_⟩;rintro _ rfl;refine j1 _ ?_;rw[eI,(within_iff _ _).2];omega
theorem v81(o:ae)(h:Ea o):VC81 o (λr=>r=aJ o):=by
 obtain⟨hs,hk⟩:=h;unfold zl at hs hk;have m1:IntKind.min .i64=-9223372036854775808:=by decide
 have m2:IntKind.max .i64=9223372036854775807:=by decide
 rw[m1,m2]at hs hk;unfold VC81 aJ iF wI;intro A7;simp only[sm]at A7;have j1:∀b,(b=true↔iX o)->VC81_J1 o (λr=>r=cr o) b:=by
  intro b hb;unfold VC81_J1 iF lN wI dE oM oK;refine⟨λh=>by unfold cr;rw[if_pos (hb.mp h)],λh=>?_⟩;have hno:¬iX o:=λh2=>by rw[hb.mpr h2]at h;cases h
  have e:cr o=gC o o.Rows.length 0:=by unfold cr;rw[if_neg hno]
  rw[e];refine⟨λx=>∃k f:Nat,x=k/\k+f=o.Rows.length/\gC o f k=gC o o.Rows.length 0,λx=>(o.Rows.length-x).toNat,⟨0,o.Rows.length,rfl,by omega,rfl⟩,?_⟩;rintro _ ⟨k,f,rfl,hkf,rp⟩;refine⟨λhx=>⟨⟨by omega,by simpa using hx⟩,?_⟩,λhx=>?_⟩
  .rw[aR]at hx;obtain⟨f,rfl⟩:∃j,f=j+1:=⟨f-1,by omega⟩
   rw[gC]at rp;rintro _ rfl;unfold p8;rw[fJ,gq];refine⟨λhe=>by rw[if_pos he]at rp;exact rp,λhe=>?_⟩;rw[if_neg (by omega)]at rp;rw[dj (by omega) (by omega)];exact⟨⟨k+1,f,by simp,by omega,rp⟩,by dsimp only;omega⟩
  .rw[bp]at hx;have:f=0:=by omega
   subst this;unfold VC81_J2 lN;rw[←rp,gC];have:k=o.Rows.length:=by omega
   rw[this]
 have w1:dk (IntKind.i64.wrap (o.az-1)) 32=true↔¬(o.az<1∨o.az>32):=by rw[(within_iff _ _).1,Ko];omega
 have w2:dk (IntKind.i64.wrap (o.cV-1)) 64=true↔¬(o.cV<1∨o.cV>64):=by rw[(within_iff _ _).1,Ko];omega
 rintro _ rfl;refine⟨λh=>j1 true ⟨λ_=>?_,λ_=>rfl⟩,λh=>?_⟩
 .rw[eI,←Bool.not_eq_true,w1]at h;unfold iX;omega
 .rw[nN,w1]at h;rintro _ rfl;refine⟨λh2=>j1 true ⟨λ_=>?_,λ_=>rfl⟩,λh2=>?_⟩
  .rw[eI,←Bool.not_eq_true,w2]at h2;unfold iX;omega
  .rw[nN,w2]at h2;rintro _ rfl;refine j1 _ ?_;rw[eI,(within_iff _ _).2];unfold iX;omega
def pW(dR:List aC)(k:Nat):List Int:=((dR.take k).map (·.Oper)).reverse
theorem prev_zero(p:List aC):pW p 0=[]:=by simp[pW]
theorem EE{p:List aC}{k:Nat}(h:k<p.length):pW p (k+1)=(gi p (k:Int)).Oper::pW p k:=by
 unfold pW;grind[List.take_succ_eq_append_getElem,List.reverse_append,dM]
theorem CM{p:List aC}{x:Int}:∀{k:Nat},k<=p.length->(x∈pW p k↔∃j:Nat,j<k/\(gi p (j:Int)).Oper=x)
 |0,_=>by rw[prev_zero];simp
 |k+1,h=>by rw[EE (by omega),aE,CM (by omega)];grind
def comb(k:Nat)(r:Int×Int×Int):Int×Int×Int:=(r.1,r.2.1+k,r.2.2)
theorem R5{o:ae}{l:List aj}{p:List aC}{k:Nat}{prev:List Int}{s:Int}(h:k<p.length):
  fY o l prev s (p.drop k)=if(cI o l prev s (gi p (k:Int))).2≠0 then(0,0,(cI o l prev s (gi p (k:Int))).2)else comb 1 (fY o l ((gi p (k:Int)).Oper::prev) (cI o l prev s (gi p (k:Int))).1 (p.drop (k+1))):=by
 rw[wz h,fY];rfl
theorem Qc(a b:Nat)(r:Int×Int×Int):comb a (comb b r)=comb (a+b) r:=by
 unfold comb;simp;omega
theorem BM(o:ae)(l:List aj)(s:Int)(p:aC):(yg o l s p).2=mh o l s p/\((yg o l s p).2≠0->(yg o l s p).1=0):=by
 unfold yg;grind
theorem v117(o:ae)(l:List aj)(s:Int)(p:List aC):VC117 o l s p (λr=>r=dC o l s p):=by
 unfold VC117 iF bD lN wI dE oM fj oK;intro _ hl hp;simp only[sm]at hl hp;rintro _ rfl;simp only[dS,aR,cO,bp,fJ,gq];refine⟨λh=>?_,λh=>⟨λh2=>?_,λh2=>?_⟩⟩
 .have e:jt o s=2:=by unfold jt;rw[if_pos h]
  unfold dC;rw[e,if_pos (by decide)]
 .have e:jt o s=30:=by unfold jt;rw[if_neg (by omega),if_pos h2]
  unfold dC;rw[e,if_pos (by decide)]
 .have e:jt o s=0:=by unfold jt;rw[if_neg (by omega),if_neg (by omega)]
  have ef:dC o l s p=fY o l [] s p:=by unfold dC;rw[e,if_neg (by decide)]
  rw[ef];refine⟨λst i=>∃k:Nat,i=k/\k<=p.length/\comb k (fY o l (pW p k) st (p.drop k))=fY o l [] s p,λ_ i=>(p.length-i).toNat,⟨0,rfl,by omega,by rw[prev_zero];simp[comb]⟩,?_⟩;rintro st _ ⟨k,rfl,hk,rp⟩;refine⟨λhi=>⟨⟨by omega,hi⟩,?_⟩,λhi=>?_⟩
  .have hi:k<p.length:=by omega
   rw[R5 hi]at rp;have bad:∀e:Int,(cI o l (pW p k) st (gi p (k:Int))).2=e->e≠0->((0:Int),(k:Int),e)=fY o l [] s p:=by rintro e rfl he;rw[if_pos he]at rp;rw[←rp];unfold comb;simp
   refine⟨λh3=>bad 2 (by unfold cI;rw[if_pos h3]) (by decide),λh3=>?_⟩;refine⟨λj=>∃v:Nat,j=v/\v<=k/\∀q:Nat,q<v->(gi p (q:Int)).Oper≠(gi p (k:Int)).Oper,λj=>(k-j).toNat,⟨0,rfl,by omega,λq hq=>by omega⟩,?_⟩;rintro _ ⟨v,rfl,hv,z7⟩;refine⟨λeB=>⟨⟨by omega,by omega⟩,λhe=>?_,λhe=>?_⟩,λhge=>?_⟩
   .rw[gJ]at he;refine bad 21 ?_ (by decide);unfold cI;rw[if_neg (by omega),if_pos ((CM hk).mpr ⟨v,by omega,he⟩)]
   .rw[pG]at he;rw[dj (by omega) (by omega)];refine⟨⟨v+1,by simp,by omega,λq hq=>?_⟩,by dsimp only;omega⟩;by_cases h:q<v
    .exact z7 q h
    .rw[show q=v by omega];exact he
   .have hv:v=k:=by omega
    subst hv;have XO:(gi p (v:Int)).Oper∉pW p v:=by rw[CM hk];rintro⟨j,hj,h⟩;exact z7 j hj h
    have hso:cI o l (pW p v) st (gi p (v:Int))=yg o l st (gi p (v:Int)):=by unfold cI;rw[if_neg (by omega),if_neg XO]
    rw[hso]at bad rp;unfold VC117_J2 iF bD;refine⟨⟨by omega,by omega⟩,?_⟩;rintro _ rfl;simp only[fJ,gq];refine⟨λhe=>bad _ ?_ he,λhe=>⟨⟨by omega,by omega⟩,?_⟩⟩
    .rw[(BM _ _ _ _).1];unfold mh;rw[if_neg (λh=>he h.1)]
    .have j3:∀b,(b=true↔((gi l (gi p (v:Int)).Oper).End≠-1/\(gi l (gi p (v:Int)).Oper).Result≠(gi p (v:Int)).Result))->VC117_J3 (λr=>r=fY o l [] s p) (λst i=>∃k:Nat,i=k/\k<=p.length/\comb k (fY o l (pW p k) st (p.drop k))=fY o l [] s p) (λ_ i=>(p.length-i).toNat) st v (fm o st (gi l (gi p (v:Int)).Oper).Kind (gi p (v:Int)).Result) b:=by
      intro b hb;unfold VC117_J3 iF wI eM;refine⟨λh=>bad 40 ?_ (by decide),λh=>?_⟩
      .rw[(BM _ _ _ _).1];unfold mh;rw[if_pos ⟨he,hb.mp h⟩]
      .have hno:¬((gi l (gi p (v:Int)).Oper).End≠-1/\(gi l (gi p (v:Int)).Oper).Result≠(gi p (v:Int)).Result):=λh2=>by rw[hb.mpr h2]at h;cases h
       have ht:yg o l st (gi p (v:Int))=((fm o st (gi l (gi p (v:Int)).Oper).Kind (gi p (v:Int)).Result).1,0):=by
        have PE:mh o l st (gi p (v:Int))=0:=by unfold mh;rw[if_neg (λh=>hno h.2)];exact he
        unfold yg;rw[if_neg (λh=>h PE)]
       rw[ht]at rp;rw[if_neg (by simp),Qc,←EE hi]at rp;rw[dj (by omega) (by omega)];exact⟨⟨v+1,by simp,by omega,rp⟩,by dsimp only;omega⟩
     refine⟨λh4=>⟨⟨by omega,by omega⟩,j3 _ ?_⟩,λh4=>j3 false ⟨(λh=>by cases h),λh=>absurd h4 h.1⟩⟩;rw[fJ];exact⟨λh=>⟨h4,h⟩,λh=>h.2⟩
  .have:k=p.length:=by omega
   subst this;unfold VC117_J1 lN;rw[←rp,List.drop_length,fY];unfold comb;simp
theorem v291(o:aj):VC291 o (λr=>r=gN o):=by
 unfold VC291 gN iF dE;grind
theorem v223(o:aj):VC223 o (λr=>r=e9 o):=by
 unfold VC223 e9 iF dE;grind
theorem v160(a b:aj):VC160 a b (λr=>r=cY a b):=rfl
theorem v146(l:List aj):VC146 l (λr=>r=cU l):=by
 unfold VC146 iF bD lN wI dE IH;intro A7;simp only[sm]at A7;refine⟨λh=>?_,λh=>?_⟩
 .rw[aR]at h;unfold cU;rw[if_pos (by omega)]
 .rw[bp]at h;have e:cU l=eY l l.length [] [] 0:=by unfold cU;rw[if_neg (by omega)]
  rw[e];refine⟨λu la x=>∃i f:Nat,x=i/\i+f=l.length/\eY l f u la i=eY l l.length [] [] 0,λ_ _ x=>(l.length-x).toNat,⟨0,l.length,rfl,by omega,rfl⟩,?_⟩;rintro u la _ ⟨i,f,rfl,hif,rp⟩;refine⟨λhx=>⟨⟨by omega,by simpa using hx⟩,?_⟩,λhx=>?_⟩
  .rw[aR]at hx;obtain⟨f,rfl⟩:∃k,f=k+1:=⟨f-1,by omega⟩
   rw[eY]at rp;rintro _ rfl;refine⟨λha=>?_,λha=>?_⟩
   .rw[fJ]at ha;rw[←rp,if_pos ha]
   .have ha:e9 (gi l (i:Int))=0:=by simpa using ha
    rw[if_neg (by omega)]at rp;have j2:¬AF l u i->EJ l la i=false->VC146_J2 l (λu la x=>∃i f:Nat,x=i/\i+f=l.length/\eY l f u la i=eY l l.length [] [] 0) (λ_ _ x=>(l.length-x).toNat) u la i (ye l u i):=by intro h1 h2;rw[if_neg h1,if_neg (by rw[h2];decide)]at rp;unfold VC146_J2 wI GD;rw[dj (by omega) (by omega)];exact⟨⟨i+1,f,by simp,by omega,rp⟩,by dsimp only;omega⟩
    have j4:¬AF l u i->∀b,b=EJ l la i->VC146_J4 l (λr=>r=eY l l.length [] [] 0) (λu la x=>∃i f:Nat,x=i/\i+f=l.length/\eY l f u la i=eY l l.length [] [] 0) (λ_ _ x=>(l.length-x).toNat) u la i b:=by
     rintro h1 b rfl;unfold VC146_J4 iF wI dE;refine⟨λhb=>?_,λhb=>⟨λhe=>?_,λhe=>?_⟩⟩
     .rw[if_neg h1,if_pos hb]at rp;exact rp
     .rw[aR]at he;have:=j2 h1 hb;unfold ye at this;rw[if_pos he]at this;exact this
     .rw[bp]at he;have:=j2 h1 hb;unfold ye at this;rw[if_neg he]at this;exact this
    have j3:∀b,(b=true↔AF l u i)->VC146_J3 l (λr=>r=eY l l.length [] [] 0) (λu la x=>∃i f:Nat,x=i/\i+f=l.length/\eY l f u la i=eY l l.length [] [] 0) (λ_ _ x=>(l.length-x).toNat) u la i b:=by
     intro b hb;unfold VC146_J3 iF;refine⟨λh=>?_,λh=>?_⟩
     .rw[if_pos (hb.mp h)]at rp;exact rp
     .have h1:¬AF l u i:=λh2=>by rw[hb.mpr h2]at h;cases h
      refine⟨λhs=>?_,λhs=>j4 h1 _ ?_⟩
      .rintro _ rfl;refine j4 h1 _ ?_;unfold EJ;rw[hs];rfl
      .unfold EJ;rw[hs];rfl
    have m1:∀z:Bool,(z=true↔(0<i/\(gi l (i:Int)).cn<=(gi l ((i:Int)-1)).cn))->z=false -> 
     ((decide ((bB u (gi l (i:Int)).cn).getD 0>0))=true->VC146_J3 l (λr=>r=eY l l.length [] [] 0) (λu la x=>∃i f:Nat,x=i/\i+f=l.length/\eY l f u la i=eY l l.length [] [] 0) (λ_ _ x=>(l.length-x).toNat) u la i true) /\
     ((decide ((bB u (gi l (i:Int)).cn).getD 0>0))=false->((decide ((gi l (i:Int)).End≥0))=true->VC146_J3 l (λr=>r=eY l l.length [] [] 0) (λu la x=>∃i f:Nat,x=i/\i+f=l.length/\eY l f u la i=eY l l.length [] [] 0) (λ_ _ x=>(l.length-x).toNat) u la i (decide ((bB u (gi l (i:Int)).End).getD 0>0)))/\((decide ((gi l (i:Int)).End≥0))=false->VC146_J3 l (λr=>r=eY l l.length [] [] 0) (λu la x=>∃i f:Nat,x=i/\i+f=l.length/\eY l f u la i=eY l l.length [] [] 0) (λ_ _ x=>(l.length-x).toNat) u la i false)):=by
     intro z hz hzf;have QK:¬(0<i/\(gi l (i:Int)).cn<=(gi l ((i:Int)-1)).cn):=λh=>by rw[hz.mpr h]at hzf;cases hzf
     simp only[aR,bp];refine⟨λhu=>j3 _ ⟨λ_=>Or.inr (Or.inl hu),λ_=>rfl⟩,λhu=>⟨λhe=>j3 _ ⟨λh=>Or.inr (Or.inr ⟨he,by rw[aR]at h;exact h⟩),λh=>?_⟩,λhe=>j3 _ ⟨(λh=>by cases h),λh=>?_⟩⟩⟩
     .rw[aR];rcases h with h|h|h
      .exact absurd h QK
      .exact absurd h hu
      .exact h.2
     .rcases h with h|h|h
      .exact absurd h QK
      .exact absurd h hu
      .exact absurd h.1 he
    refine⟨λh0=>?_,λh0=>?_⟩
    .rw[aR]at h0;rw[dj (n:=(i:Int)-1) (by omega) (by omega)];refine⟨⟨by omega,by omega⟩,λhs=>?_,λhs=>?_⟩
     .rw[aR]at hs;exact j3 true ⟨λ_=>Or.inl ⟨by omega,hs⟩,λ_=>rfl⟩
     .refine m1 (decide ((gi l (i:Int)).cn<=(gi l ((i:Int)-1)).cn)) ?_ hs;rw[aR];exact⟨λh=>⟨by omega,h⟩,λh=>h.2⟩
    .rw[bp]at h0;exact m1 false ⟨(λh=>by cases h),λh=>by omega⟩ rfl
  .rw[bp]at hx;have:f=0:=by omega
   subst this;unfold VC146_J1 lN;rw[←rp];rfl
theorem JM(l:List aj):∀(f:Nat)(u:List (Int×Int)) (la:List (Int×aj)) (i:Nat),i+f=l.length->(eY l f u la i).2=0->∀j:Nat,i<=j->j<l.length->e9 (gi l (j:Int))=0/\(0<j->(gi l ((j:Int)-1)).cn<(gi l (j:Int)).cn)
 |0,u,la,i,hif,_,j,h1,h2=>by omega
 |f+1,u,la,i,hif,h,j,h1,h2=>by
  rw[eY]at h;by_cases ha:e9 (gi l (i:Int))≠0
  .rw[if_pos ha]at h;exact absurd h ha
  .rw[if_neg ha]at h;by_cases h32:AF l u i
   .rw[if_pos h32]at h;simp at h
   .rw[if_neg h32]at h;by_cases h33:EJ l la i=true
    .rw[if_pos h33]at h;simp at h
    .rw[if_neg h33]at h;by_cases hji:j=i
     .subst hji;refine⟨by omega,λh0=>?_⟩;apply fC;intro hn;exact h32 (Or.inl ⟨h0,by omega⟩)
     .exact JM l f _ _ (i+1) (by omega) h j (by omega) h2
theorem SU{l:List aj}{p:List aC}(h2:∀y:Nat,y<p.length->my l p y=false):iH l p=-1:=by
 unfold iH Gs;grind
theorem Vl{l:List aj}{p:List aC}{t:Nat}{k:Nat}(h:0<=(gi p (t:Int)).Oper/\(gi p (t:Int)).Oper<l.length)(hk:k<l.length)(ha:cY (gi l (k:Int)) (gi l (gi p (t:Int)).Oper)=true)(hn:(k:Int)∉opers (p.take t)):my l p t=true:=by
 unfold my;grind
theorem ado{l:List aj}{p:List aC}{t:Nat}(hn:∀k:Nat,k<l.length->¬(cY (gi l (k:Int)) (gi l (gi p (t:Int)).Oper)=true/\(k:Int)∉opers (p.take t))):my l p t=false:=by
 unfold my;grind
theorem Qg{l:List aj}(h:(cU l).2=0):l.length<=5000:=by
 unfold cU at h;split at h
 .cases h
 .omega
theorem v69(a b:aj):VC69 a b (λr=>r=ou a b):=rfl
theorem v119(p:List aC)(i:Int):VC119 p i (λr=>r=br p i):=by
 unfold VC119 br iF bD lN wI dE oM oK;intro hs;simp only[sm]at hs;refine⟨λx=>0<=x/\x<=p.length/\∀j:Int,0<=j->j<x->(λq:aC=>q.Oper==i) (gi p j)=false,λx=>(p.length-x).toNat,⟨by omega,by omega,λj h0 h1=>by omega⟩,?_⟩;rintro x ⟨h0,h1,h2⟩;refine⟨λh=>?_,λh=>?_⟩
 .rw[aR]at h;refine⟨⟨h0,h⟩,λhe=>?_,λhe=>?_⟩
  .rw[G9 (f:=λq:aC=>q.Oper==i) h0 h he h2];dsimp only;omega
  .rw[dj (by omega) (by omega)];refine⟨⟨by omega,by omega,λj j0 j1=>?_⟩,by dsimp only;omega⟩;by_cases hj:j<x
   .exact h2 j j0 hj
   .rw[show j=x by omega];exact he
 .rw[bp]at h;unfold VC119_J1;rw[G8 (f:=λq:aC=>q.Oper==i) (λj j0 j1=>h2 j j0 (by omega))]
theorem pY(p:List aC)(i:Int):(br p i=-1/\i∉opers p)∨∃k:Nat,k<p.length/\br p i=k/\(gi p (k:Int)).Oper=i/\∀j:Nat,j<k->(gi p (j:Int)).Oper≠i:=by
 unfold br;cases h:p.findIdx? (λq=>q.Oper==i)with
 |none=>left;refine⟨rfl,?_⟩;unfold opers;grind
 |some k=>grind[List.findIdx?_eq_some_iff_getElem,dM]
theorem si{p:List aC}{i:Int}{t:Nat}(ht:t<=p.length):i∈opers (p.take t)↔∃k:Nat,k<t/\(gi p (k:Int)).Oper=i:=by
 unfold opers;grind[List.getElem_of_mem,List.length_take,dM,List.mem_take_iff_getElem]
theorem E6{o:ae}{l:List aj}{p:List aC}{t:Nat}(ht:t<l.length)(h:yO l p t=false):fF o l p=false:=by
 unfold fF;grind
theorem v56(o:ae)(l:List aj)(p:List aC):VC56 o l p (λr=>r=fF o l p):=by
 unfold VC56 iF bD lN dE oM;intro _ hl _;simp only[sm]at hl;rintro _ rfl;refine⟨λh=>?_,λh=>?_⟩
 .rw[fJ]at h;unfold fF;rw[Bool.false_eq,mN];left;rw[bp];exact h
 .rw[gq]at h;refine⟨λx=>∃t:Nat,x=t/\t<=l.length/\∀y:Nat,y<t->yO l p y=true,λx=>(l.length-x).toNat,⟨0,rfl,by omega,λy hy=>by omega⟩,?_⟩;rintro _ ⟨t,rfl,ht,hy⟩;refine⟨λh2=>?_,λh2=>?_⟩
  .rw[aR]at h2;refine⟨⟨by omega,by omega⟩,?_⟩;have hw:IntKind.i64.wrap ((t:Int)+1)=((t+1:Nat):Int):=by rw[dj (by omega) (by omega)];rfl
   have j3:∀z,z=(((gi l (t:Int)).End != -1)&&decide (br p t<0))->VC56_J3 l p (λr=>r=fF o l p) (λx=>∃t:Nat,x=t/\t<=l.length/\∀y:Nat,y<t->yO l p y=true) (λx=>(l.length-x).toNat) t z:=by
    intro z hz;unfold VC56_J3 iF bD lN dE oM;refine⟨λhz1=>?_,λQK=>?_⟩
    .refine(E6 (t:=t) (by omega) ?_).symm;unfold yO;rw[←hz,hz1];rfl
    .refine⟨λx=>∃u:Nat,x=u/\u<=l.length/\∀k:Nat,k<u->qR l p t k=true,λx=>(l.length-x).toNat,⟨0,rfl,by omega,λy hy=>by omega⟩,?_⟩;rintro _ ⟨u,rfl,hu,hk⟩;refine⟨λh3=>?_,λh3=>?_⟩
     .rw[aR]at h3;rintro _ rfl _ rfl;refine⟨⟨by omega,by omega⟩,⟨by omega,by omega⟩,?_⟩;have VY:IntKind.i64.wrap ((u:Int)+1)=((u+1:Nat):Int):=by rw[dj (by omega) (by omega)];rfl
      have j4:∀z2,z2=!qR l p t u->VC56_J4 (λr=>r=fF o l p) (λx=>∃u:Nat,x=u/\u<=l.length/\∀k:Nat,k<u->qR l p t k=true) (λx=>(l.length-x).toNat) u z2:=by
       intro z2 IW;unfold VC56_J4 iF wI oK;refine⟨λh5=>?_,λh5=>?_⟩
       .refine(E6 (t:=t) (by omega) ?_).symm;unfold yO;rw[mN];right;rw[List.all_eq_false];refine⟨u,by rw[bM];omega,?_⟩;rw[h5]at IW;simpa using IW
       .rw[VY];refine⟨⟨u+1,rfl,by omega,λk Ed=>?_⟩,by dsimp only;omega⟩;by_cases yT:k<u
        .exact hk k yT
        .have:k=u:=by omega
         subst this;rw[h5]at IW;simpa using IW
      have hlp:(!qR l p t u)=(cY (gi l (t:Int)) (gi l (u:Int))&&decide (br p u≥0)&&(decide (br p t<0)||decide (br p t>br p u))):=by unfold qR;rw[Bool.not_not]
      rintro _ rfl;exact j4 _ hlp.symm
     .rw[bp]at h3;have:u=l.length:=by omega
      subst this;unfold VC56_J2 wI oK;rw[hw];refine⟨⟨t+1,rfl,by omega,λy hy1=>?_⟩,by dsimp only;omega⟩;by_cases hy2:y<t
      .exact hy y hy2
      .have:y=t:=by omega
       subst this;unfold yO;rw[←hz,QK,List.all_eq_true.mpr (λk Ed=>hk k (List.mem_range.mp Ed))];rfl
   refine⟨λhe=>?_,λhe=>?_⟩
   .rintro _ rfl;exact j3 _ (by rw[he];rfl)
   .exact j3 _ (by rw[he];rfl)
  .rw[bp]at h2;have:t=l.length:=by omega
   subst this;unfold VC56_J1 fF;rw[h,List.all_eq_true.mpr (λk Ed=>hy k (List.mem_range.mp Ed))];rfl
def wY(order:List Int)(k:Nat):List Int:=(order.take k).reverse
theorem KM(p:List Int):wY p 0=[]:=by simp[wY]
theorem KN{p:List Int}{k:Nat}(h:k<p.length):wY p (k+1)=gi p (k:Int)::wY p k:=by
 unfold wY;grind[List.take_succ_eq_append_getElem,List.reverse_append,dM]
def zL(a:List aC)(r:List aC×Int):List aC×Int:=if r.2≠0 then([],r.2)else(a++r.1,0)
theorem P0{o:ae}{l:List aj}{p:List Int}{k:Nat}{prev:List Int}{s:Int}(h:k<p.length):
  iB o l prev s (p.drop k)=if(cI o l prev s (iM o l s (gi p (k:Int)))).2≠0 then([],(cI o l prev s (iM o l s (gi p (k:Int)))).2)else zL [iM o l s (gi p (k:Int))] (iB o l (gi p (k:Int)::prev) (cI o l prev s (iM o l s (gi p (k:Int)))).1 (p.drop (k+1))):=by
 rw[wz h,iB];rfl
theorem O6(a b:List aC)(r:List aC×Int):zL a (zL b r)=zL (a++b) r:=by
 unfold zL;grind
theorem UR(o:ae)(l:List aj)(prev:List Int)(s:Int)(p:List Int)(hr:(iB o l prev s p).2≠0):(iB o l prev s p).1=[]:=by
 cases p with
 |nil=>exact absurd rfl hr
 |cons i is=>rw[iB]at hr ⊢; grind
theorem S4(o:ae)(l:List aj)(prev:List Int)(s:Int)(p:List Int):zL [] (iB o l prev s p)=iB o l prev s p:=by
 unfold zL;grind[UR]
theorem HQ{o:ae}{l:List aj}{q:aC}:∀{a:List aC} {prev:List Int} {s:Int},(fY o l prev s a).2.2=0 ->
  fY o l prev s (a++[q])=if(cI o l ((a.map (·.Oper)).reverse++prev) (fY o l prev s a).1 q).2≠0 then(0,(a.length:Int),(cI o l ((a.map (·.Oper)).reverse++prev) (fY o l prev s a).1 q).2)else((cI o l ((a.map (·.Oper)).reverse++prev) (fY o l prev s a).1 q).1,(a.length:Int)+1,0)
 |[],prev,s,_=>by simp only[gU,fY,iC,List.reverse_nil,cN];grind
 |p::a,prev,s,h0=>by
  rw[fY]at h0;by_cases he:(cI o l prev s p).2≠0
  .rw[if_pos he]at h0;exact absurd h0 he
  .rw[if_neg he]at h0;have ih:=HQ (o:=o) (l:=l) (q:=q) (a:=a) (prev:=p.Oper::prev) (s:=(cI o l prev s p).1) h0;rw[jK,fY,if_neg he,ih,fY,if_neg he];have e:((p::a).map (·.Oper)).reverse++prev=(a.map (·.Oper)).reverse++(p.Oper::prev):=by simp
   rw[e];split
   .simp
   .simp
theorem v55(o:ae)(l:List aj)(p:List Int)(h:SF o l p):VC55 o l p (λr=>r=eK o l p):=by
 have hlen:p.length<=1000000:=h;unfold VC55 eK iF bD lN dE IH;intro _ hl hp;rintro _ rfl;simp only[fJ,gq];have ef0:∀a,jt o o.eZ=0->dC o l o.eZ a=fY o l [] o.eZ a:=λa hm=>by unfold dC;rw[hm,if_neg (by decide)]
 by_cases hm:jt o o.eZ=0
 .have e0:dC o l o.eZ []=(o.eZ,0,0):=by rw[ef0 _ hm];rfl
  have er:rQ o l p=iB o l [] o.eZ p:=by unfold rQ;rw[hm,if_neg (by decide)]
  rw[e0,er];refine⟨λh=>absurd rfl h,λ_=>?_⟩;simp only[aR,bp];refine⟨λout st i=>∃k:Nat,i=k/\k<=p.length/\out.length=k/\out.map (·.Oper)=p.take k/\fY o l [] o.eZ out=(st,(k:Int),0)/\zL out (iB o l (wY p k) st (p.drop k))=iB o l [] o.eZ p,λ_ _ i=>(p.length-i).toNat,⟨0,rfl,by omega,rfl,by simp,rfl,by rw[KM,nL];exact S4 _ _ _ _ _⟩,?_⟩;rintro out st _ ⟨k,rfl,hk,XN,I7,nz,rp⟩;refine⟨λhi=>?_,λhi=>?_⟩
  .have hi:k<p.length:=by omega
   rw[P0 hi]at rp;have age:(out.map (·.Oper)).reverse++[]=wY p k:=by rw[I7,fT];rfl
   have j2:∀x,x=(iM o l st (gi p (k:Int))).Result->VC55_J2 o l p (λr=>r=iB o l [] o.eZ p) (λout st i=>∃k:Nat,i=k/\k<=p.length/\out.length=k/\out.map (·.Oper)=p.take k/\fY o l [] o.eZ out=(st,(k:Int),0)/\zL out (iB o l (wY p k) st (p.drop k))=iB o l [] o.eZ p) (λ_ _ i=>(p.length-i).toNat) out st k out x:=by
    rintro x hx;unfold VC55_J2 iF wI GD;rw[show(⟨gi p (k:Int),x⟩:aC)=iM o l st (gi p (k:Int)) by rw[hx];rfl];refine⟨by simp only[aS,bc,cN];omega,?_⟩;rintro _ rfl;have hsn:=HQ (o:=o) (l:=l) (q:=iM o l st (gi p (k:Int))) (a:=out) (prev:=[]) (s:=o.eZ) (by rw[nz]);rw[age,nz,XN]at hsn;rw[ef0 _ hm,hsn];simp only[fJ,gq];by_cases he:(cI o l (wY p k) st (iM o l st (gi p (k:Int)))).2≠0
    .rw[if_pos he];refine⟨λ_=>?_,λh=>absurd h he⟩;rw[if_pos he]at rp;rw[←rp];unfold zL;rw[if_pos he]
    .rw[if_neg he];refine⟨λh=>absurd rfl h,λ_=>?_⟩;rw[if_neg he,O6,←KN hi]at rp;rw[dj (by omega) (by omega)];refine⟨⟨k+1,by simp,by omega,by simp[XN],?_,?_,rp⟩,by omega⟩
     .rw[gp,I7,wD hi,dM _ _ hi];rfl
     .rw[hsn,if_neg he];simp
   have jn:¬(0<=gi p (k:Int)/\gi p (k:Int)<l.length)->VC55_J2 o l p (λr=>r=iB o l [] o.eZ p) (λout st i=>∃k:Nat,i=k/\k<=p.length/\out.length=k/\out.map (·.Oper)=p.take k/\fY o l [] o.eZ out=(st,(k:Int),0)/\zL out (iB o l (wY p k) st (p.drop k))=iB o l [] o.eZ p) (λ_ _ i=>(p.length-i).toNat) out st k out 0:=λh=>j2 0 (by unfold iM;dsimp only;rw[if_neg h]);refine⟨⟨by omega,by omega⟩,⟨by omega,by omega⟩,λhb=>⟨⟨by omega,by omega⟩,?_⟩,λhb=>?_⟩
   .unfold VC55_J3 iF bD;rw[aR,bp];refine⟨λhb2=>⟨⟨by omega,by omega⟩,⟨by omega,by omega⟩,?_⟩,λhb2=>jn (by omega)⟩;rintro _ rfl;refine j2 _ ?_;unfold iM;rw[if_pos ⟨by omega,hb2⟩]
   .unfold VC55_J3 iF bD;exact⟨(λh=>by cases h),λ_=>jn (by omega)⟩
  .have:k=p.length:=by omega
   subst this;unfold VC55_J1;rw[←rp,List.drop_length,iB];unfold zL;simp
 .have e0:dC o l o.eZ []=(0,-1,jt o o.eZ):=by unfold dC;rw[if_pos hm]
  rw[e0];refine⟨λ_=>by unfold rQ;rw[if_pos hm],λh=>absurd h hm⟩
theorem Ez{o:ae}:∀{f i:Nat},i+f=o.Rows.length->(gC o f i).2=0->∀j:Nat,i<=j->j<o.Rows.length->iK o (j:Int)=0
 |0,i,h,_,j,h1,h2=>by omega
 |f+1,i,h,h0,j,h1,h2=>by
  rw[gC]at h0;by_cases he:iK o (i:Int)≠0
  .rw[if_pos he]at h0;exact absurd h0 he
  .rw[if_neg he]at h0;by_cases hj:j=i
   .subst hj;omega
   .exact Ez (f:=f) (i:=i+1) (by omega) h0 j (by omega) h2
theorem Xh{o:ae}{s k:Int}(hc:(cr o).2=0)(h:(bN o s k).2.2=true):0<=(bN o s k).1/\(bN o s k).1<o.az:=by
 unfold cr at hc;split at hc
 .cases hc
 .have z7:=Ez (by omega) hc;unfold bN at h ⊢; cases hf:o.Rows.find? (λr=>r.State==s&&r.Kind==k)with
  |none=>rw[hf]at h;cases h
  |some r =>
   have hm:=List.mem_of_find?_eq_some hf;obtain⟨j,hj,rfl⟩:=nO hm;have:=z7 j (by omega) hj;unfold iK at this;rw[dM _ _ hj]at this;dsimp only;by_cases hb:o.Rows[j].State<0∨o.Rows[j].State≥o.az∨o.Rows[j].Next<0∨o.Rows[j].Next≥o.az
   .rw[if_pos hb]at this;cases this
   .omega
theorem Jz{o:ae}{l:List aj}:∀{p:List aC} {prev:List Int} {s:Int},(fY o l prev s p).2.2=0->iB o l prev s (p.map (·.Oper))=(p,0)
 |[],_,_,_=>rfl
 |q::p,prev,s,h=>by
  rw[fY]at h;by_cases he:(cI o l prev s q).2≠0
  .rw[if_pos he]at h;exact absurd h he
  .rw[if_neg he]at h;have eq:iM o l s q.Oper=q:=by
    unfold cI at he;by_cases h1:q.Oper<0∨q.Oper≥l.length
    .rw[if_pos h1]at he;exact absurd (by decide) he
    .rw[if_neg h1]at he;by_cases h2:q.Oper∈prev
     .rw[if_pos h2]at he;exact absurd (by decide) he
     .rw[if_neg h2,(BM _ _ _ _).1]at he;have PE:mh o l s q=0:=by omega
      unfold mh at PE;by_cases hh:(fm o s (gi l q.Oper).Kind q.Result).2=0/\(gi l q.Oper).End≠-1/\(gi l q.Oper).Result≠q.Result
      .rw[if_pos hh]at PE;cases PE
      .rw[if_neg hh]at PE;unfold fm at PE;unfold iM;rw[if_pos (by omega)];split at PE
       .cases PE
       .split at PE
        .cases PE
        .rename_i h4;have:(bN o s (gi l q.Oper).Kind).2.1=q.Result:=by omega
         rw[this]
   have ih:=Jz (p:=p) h;rw[ba,iB,eq,if_neg he,ih,if_neg (λh=>h rfl)]
theorem HT{o:ae}{l:List aj}:∀{is:List Int} {prev:List Int} {s:Int},(iB o l prev s is).2=0->(fY o l prev s (iB o l prev s is).1).2.2=0/\(iB o l prev s is).1.map (·.Oper)=is
 |[],_,_,_=>⟨rfl,rfl⟩
 |i::is,prev,s,h=>by
  rw[iB]at h ⊢; by_cases he:(cI o l prev s (iM o l s i)).2≠0
  .rw[if_pos he]at h;exact absurd h he
  .rw[if_neg he]at h ⊢; by_cases h2:(iB o l (i::prev) (cI o l prev s (iM o l s i)).1 is).2≠0
   .rw[if_pos h2]at h;exact absurd h h2
   .rw[if_neg h2]at h ⊢; obtain⟨g1,g2⟩:=HT (o:=o) (l:=l) (is:=is) (prev:=i::prev) (s:=(cI o l prev s (iM o l s i)).1) (by omega);rw[fY,if_neg he];refine⟨g1,?_⟩;rw[ba,g2];rfl
theorem RU{o:ae}{l:List aj}:∀{p:List aC} {prev:List Int} {s:Int},(fY o l prev s p).2.2=0->(opers p).Nodup/\∀x∈opers p,0<=x/\x<l.length/\x∉prev
 |[],_,_,_=>⟨List.nodup_nil,λx hx=>by cases hx⟩
 |q::p,prev,s,h=>by
  rw[fY]at h;by_cases he:(cI o l prev s q).2≠0
  .rw[if_pos he]at h;exact absurd h he
  .rw[if_neg he]at h;obtain⟨i1,i2⟩:=RU (p:=p) h;have hin:¬(q.Oper<0∨q.Oper≥l.length)/\q.Oper∉prev:=by unfold cI at he;grind
   have e:opers (q::p)=q.Oper::opers p:=rfl;rw[e,gS];refine⟨⟨λhm=>?_,i1⟩,λx hx=>?_⟩
   .exact(i2 _ hm).2.2 (aI ..)
   .rcases List.mem_cons.mp hx with rfl|hx
    .exact⟨by omega,by omega,hin.2⟩
    .obtain⟨a,b,c⟩:=i2 x hx;exact⟨a,b,λhp=>c (aw _ hp)⟩
theorem EU(n:Nat):∀(S:List Int),S.Nodup->(∀x∈S,0<=x/\x<n)->((List.range n).filter (λi:Nat=>!decide ((i:Int)∈S))).length+S.length=n
 |[],_,_=>by simp;rw[List.filter_eq_self.mpr (λ_ _=>rfl),sO]
 |a::S,hn,hr=>by
  have ih:=EU n S (List.nodup_cons.mp hn).2 (λx hx=>hr x (aw _ hx));obtain⟨h0,h1⟩:=hr a (aI ..);have hF:((List.range n).filter (λi:Nat=>!decide ((i:Int)∈S))).Nodup:=List.Pairwise.filter _ List.nodup_range;have he:(List.range n).filter (λi:Nat=>!decide ((i:Int)∈a::S))=((List.range n).filter (λi:Nat=>!decide ((i:Int)∈S))).erase a.toNat:=by rw[hF.erase_eq_filter,List.filter_filter];grind
  grind
theorem vf{l:List aj}{p:List aC}{m:Int}:m∈ie l p↔0<=m/\m<l.length/\(gi l m).End≠-1/\m∉opers p:=by
 unfold ie wS Mj Nl;rw[aq];constructor
 .rintro⟨i,hi,rfl⟩;rw[dx,bM]at hi;obtain⟨h1,h2⟩:=hi;simp only[ak,gJ,pG,eI,bp]at h2;exact⟨by omega,by omega,h2.1,h2.2⟩
 .rintro⟨h0,h1,h2,h3⟩;refine⟨m.toNat,?_,by omega⟩;have e:(m.toNat:Int)=m:=by omega
  rw[dx,bM,e];refine⟨by omega,?_⟩;simp only[ak,gJ,pG,eI,bp];exact⟨h2,h3⟩
theorem O3{l:List aj}{p:List aC}(h:¬iH l p≥0):∀y:Nat,y<p.length->my l p y=false:=by
 unfold iH Gs at h;cases hf:(List.range p.length).find? (my l p)with
 |none=>grind
 |some x=>rw[hf]at h;exact absurd (by dsimp only;omega) h
theorem TX{o:ae}{l:List aj}{p:List aC}:mX o l p=true↔(aJ o).2=0/\(cU l).2=0/\(ja o l p).2.2=0/\(∀y:Nat,y<p.length->my l p y=false)/\∀m,m∉ie l p:=by
 unfold mX;rw[gJ];unfold wT;by_cases h1:(aJ o).2≠0∨(cU l).2≠0
 .rw[if_pos h1];exact⟨(λh=>by cases h),λh=>by omega⟩
 .rw[if_neg h1];by_cases h2:(ja o l p).2.2≠0
  .rw[if_pos h2];exact⟨λh=>absurd h h2,λh=>absurd h.2.2.1 h2⟩
  .rw[if_neg h2];by_cases h3:iH l p≥0
   .rw[if_pos h3];refine⟨(λh=>by cases h),λh=>?_⟩;rw[SU h.2.2.2.1]at h3;exact absurd h3 (by decide)
   .rw[if_neg h3];by_cases h4:(ie l p).length>0
    .rw[if_pos h4];refine⟨(λh=>by cases h),λh=>?_⟩;exact absurd (List.getElem_mem h4) (h.2.2.2.2 _)
    .rw[if_neg h4];refine⟨λ_=>⟨by omega,by omega,by omega,O3 h3,λm hm=>h4 (List.length_pos_of_mem hm)⟩,λ_=>rfl⟩
theorem Cn{o:ae}{l:List aj}{p:List aC}(h:(ja o l p).2.2=0):(opers p).Nodup/\∀x∈opers p,0<=x/\x<l.length:=by
 unfold ja dC at h;grind[RU]
theorem zF{p:List aC}{i:Int}:br p i≥0↔i∈opers p:=by
 have hm:=si (p:=p) (i:=i) (aK _);grind[List.take_length,pY]
theorem Qw{l:List aj}(h:(cU l).2=0){i:Int}(h0:0<=i)(h1:i<l.length):cY (gi l i) (gi l i)=false:=by
 have hl:=Qg h;unfold cU at h;rw[if_neg (by omega)]at h;have ha:=(JM l l.length [] [] 0 (by omega) h i.toNat (by omega) (by omega)).1;have e:(i.toNat:Int)=i:=by omega
 rw[e]at ha;unfold e9 at ha;unfold cY;split at ha
 .cases ha
 .split at ha
  .cases ha
  .split at ha
   .cases ha
   .rename_i _ _ he;have he:gN (gi l i)=true:=by simpa using he
    unfold gN at he;rw[mN,bp,bp];split at he
    .left;omega
    .simp only[ak,aR]at he;right;omega
theorem Nh{o:ae}{l:List aj}{p:List aC}:fF o l p=true↔(ja o l p).2.2=0/\∀i:Nat,i<l.length->((gi l (i:Int)).End≠-1->br p i≥0)/\∀k:Nat,k<l.length->cY (gi l (i:Int)) (gi l (k:Int))=true->br p k≥0->br p i≥0/\br p i<=br p k:=by
 unfold fF;rw[ak,aR,aO];have e:∀i,yO l p i=true↔((gi l (i:Int)).End≠-1->br p i≥0)/\∀k:Nat,k<l.length->cY (gi l (i:Int)) (gi l (k:Int))=true->br p k≥0->br p i≥0/\br p i<=br p k:=by
  intro i;unfold yO;rw[ak,aO];have a1:(!(((gi l (i:Int)).End != -1)&&decide (br p i<0)))=true↔((gi l (i:Int)).End≠-1->br p i≥0):=by grind
  rw[a1];refine and_congr Iff.rfl ⟨λh k hk ha hp=>?_,λh k hk=>?_⟩
  .have:=h k (List.mem_range.mpr hk);unfold qR at this;rw[ha,eI,jg,mN,bp,cO,bp,bp]at this;omega
  .unfold qR;rw[eI,mN,mN,bp,cO,bp,bp];cases ha:cY (gi l (i:Int)) (gi l (k:Int))with
   |false=>exact Or.inl (Or.inl rfl)
   |true=>grind
 constructor
 .rintro⟨h1,h2⟩;exact⟨h1,λi hi=>(e i).mp (h2 i (List.mem_range.mpr hi))⟩
 .rintro⟨h1,h2⟩;exact⟨h1,λi hi=>(e i).mpr (h2 i (List.mem_range.mp hi))⟩
theorem abF{o:ae}{l:List aj}{p:List aC}(hc:(aJ o).2=0)(hl:(cU l).2=0):mX o l p=fF o l p:=by
 rw[jQ,TX,Nh];constructor
 .rintro⟨-,-,nz,XM,alZ⟩;refine⟨nz,λi hi=>⟨λhe=>?_,λk hk ha hp=>?_⟩⟩
  .rw[ge_iff_le,←ge_iff_le,zF];apply fC;intro hn;exact alZ i (vf.mpr ⟨by omega,by omega,he,hn⟩)
  .rcases pY p (k:Int)with⟨h1,_⟩|⟨x,h1,h2,h3,_⟩
   .omega
   .have hb:=XM x h1;have PI:(i:Int)∈opers (p.take x):=by grind[Vl]
    obtain⟨j,hj,hji⟩:=(si (by omega)).mp PI;rcases pY p (i:Int)with⟨g1,g2⟩|⟨y,g1,g2,g3,g4⟩
    .exfalso;apply g2;have:=(si (p:=p) (i:=(i:Int)) (aK _)).mpr ⟨j,by omega,hji⟩;rwa[gT]at this
    .have:¬j<y:=λh=>g4 j h hji;omega
 .rintro⟨nz,h⟩;obtain⟨ZN,hin⟩:=Cn nz;refine⟨hc,hl,nz,λx hx=>ado (λk hk hh=>?_),λm hm=>?_⟩
  .obtain⟨ha,hn⟩:=hh;have hxm:(gi p (x:Int)).Oper∈opers p:=by have:=(si (p:=p) (i:=(gi p (x:Int)).Oper) (aK _)).mpr ⟨x,hx,rfl⟩;grind
   have hr:=hin _ hxm;have e:(((gi p (x:Int)).Oper.toNat:Nat):Int)=(gi p (x:Int)).Oper:=by omega
   have A9:=zF.mpr hxm;have h2:=(h k hk).2 (gi p (x:Int)).Oper.toNat (by omega) (by rw[e];exact ha) (by rw[e];exact A9)
   rw[e]at h2;rcases pY p (gi p (x:Int)).Oper with⟨g1,_⟩|⟨y,g1,g2,g3,g4⟩
   .omega
   .have hyx:¬x<y:=λhh=>g4 x hh rfl;rcases pY p (k:Int)with⟨f1,_⟩|⟨z,f1,f2,f3,f4⟩
    .omega
    .by_cases hzx:z<x
     .exact hn ((si (by omega)).mpr ⟨z,hzx,f3⟩)
     .have:z=y:=by omega
      subst this;rw[f3]at g3;rw[←g3]at ha;rw[Qw hl (by omega) (by omega)]at ha;cases ha
  .obtain⟨h0,h1,h2,h3⟩:=vf.mp hm;have e:((m.toNat:Nat):Int)=m:=by omega
   have:=(h m.toNat (by omega)).1 (by rw[e];exact h2);rw[e]at this;exact h3 (zF.mp this)
theorem fW{α:Type}[Inhabited α]{l:List α}{i:Int}(h0:0<=i)(h:i<l.length):l.take (i+1).toNat=l.take i.toNat++[gi l i]:=by
 obtain⟨k,rfl⟩:=oF h0;rw[show((k:Int)+1).toNat=k+1 by omega,show((k:Int)).toNat=k by omega,List.take_succ];grind[List.getElem?_eq_getElem,dM]
theorem dq{α:Type}[Inhabited α]{l:List α}{i:Int}(h0:0<=i)(h:i<l.length):gi l i∈l:=by
 grind[kR,List.getElem_mem]
theorem Ll{o:ae}(hc:(aJ o).2=0):jt o o.eZ=0/\0<=o.eZ/\o.eZ<o.az:=by
 have h:0<=o.eZ/\o.eZ<o.az:=by
  unfold aJ cr at hc;split at hc
  .cases hc
  .rename_i hh;unfold iX at hh;omega
 refine⟨?_,h⟩;unfold jt;have Bb:(cr o).2=0:=hc;omega
theorem acz{l:List aj}{x:aj}{i:Int}(h0:0<=i)(h1:i<l.length):gi (l++[x]) i=gi l i:=by
 unfold gi;grind
def QH(n:Nat):Nat->List (List Int)
 |0=>[[]]
 |k+1=>grow n (QH n k)
theorem Pk:((List.range 6).all λn=>(List.range 8).all λk=>decide ((QH n k).length<=1000)&&(QH n k).all λx=>decide (x.length<=10))=true:=by decide +kernel
theorem Xv:((List.range 6).all λn=>decide (QH n (n+1)=[]))=true:=by decide +kernel
theorem TM{n k:Nat}(hn:n<=5)(hk:k<=7):(QH n k).length<=1000/\∀x∈QH n k,x.length<=10:=by
 have h:=Pk;rw[aO]at h;have h:=h n (bM.2 (by omega));grind
theorem Xu{n:Nat}(hn:n<=5):QH n (n+1)=[]:=by
 grind[Xv,List.all_eq_true]
def uj(x:List Int)(k:Nat):List (List Int):=((List.range k).filter λk:Nat=>!decide ((k:Int)∈x)).map λk:Nat=>x++[(k:Int)]
theorem KH(x:List Int)(k:Nat):uj x (k+1)=uj x k++(if decide ((k:Int)∈x)then []else [x++[(k:Int)]]):=by
 unfold uj;grind[List.range_succ]
theorem HU(x:List Int)(k:Nat):(uj x k).length<=k:=by
 unfold uj;grind
theorem wq{α β:Type}{f:α->List β}{c:Nat}(h:∀x,(f x).length<=c):∀L:List α,(L.flatMap f).length<=L.length*c
 |[]=>by simp
 |x::L=>by have:=wq h L;grind[List.length_append,List.length_cons,Nat.add_mul]
theorem Jh(n:Nat)(L:List (List Int)):grow (n:Int) L=L.flatMap λx=>uj x n:=rfl
theorem v54(n:Int)(hp:SG n):VC54 n (λr=>r=eT n):=by
 unfold VC54 iF bD lN dE fj ZA l5P;obtain⟨n0,n5⟩:=hp;obtain⟨m,rfl⟩:=oF n0;have hO:eT (m:Int)=[[]]++mw m (m+1) [[]]:=rfl;rw[hO];generalize hR:[[]]++mw (m:Int) (m+1) [[]]=R;refine⟨λout last=>∃k:Nat,k<=m+1/\last=QH m k/\out.length<=1+1000*k/\out++mw m (m+1-k) last=R,λout last=>2*(10000-out.length)+(if last=[]then 0 else 1),⟨0,by omega,rfl,by simp,by simpa using hR⟩,?_⟩;rintro out last ⟨k,hk,hla,XN,rp⟩;obtain⟨L1,L2⟩:=TM (n:=m) (k:=k) (by omega) (by omega);rw[←hla]at L1 L2;refine⟨λh=>?_,λh=>?_⟩
 .have h:=aF h;have hne:last≠[]:=by rintro rfl;simp at h
  have V0:k<=m:=by
   apply fC;intro hh;have:k=m+1:=by omega
   subst this;rw[Xu (by omega)]at hla;exact hne hla
  refine⟨λo' la next i=>out=o'/\last=la/\0<=i/\i<=last.length/\next=(last.take i.toNat).flatMap λx=>uj x m,λ_ _ _ i=>(last.length-i).toNat,⟨rfl,rfl,by omega,by omega,by simp⟩,?_⟩;rintro _ _ next i ⟨rfl,rfl,i0,i1,Nv⟩
  refine⟨λhi=>?_,λhi=>?_⟩
  .have hi:=aF hi;have hfl:=wq (f:=λx=>uj x m) (c:=5) (λx=>bP (HU x m) (by omega)) (last.take i.toNat);rw[bH]at hfl;have aq1:=L2 _ (dq i0 hi);have PD:=fW i0 hi;generalize hxx:gi last i=x at *; refine⟨λo' la nx k2=>out=o'/\last=la/\0<=k2/\k2<=m/\nx=((last.take i.toNat).flatMap λx=>uj x m)++uj x k2.toNat,λ_ _ _ k2=>(m-k2).toNat,⟨rfl,rfl,by omega,by omega,by rw[Nv];simp[uj]⟩,?_⟩;rintro _ _ nx k2 ⟨rfl,rfl,k0,k1,ZM⟩;refine⟨λyT=>?_,λyT=>?_⟩
   .have yT:=aF yT;refine⟨λo' la n2 Ht j=>out=o'/\last=la/\nx=n2/\0<=j/\j<=x.length/\Ht=decide (k2∈x.take j.toNat),λ_ _ _ _ j=>(x.length-j).toNat,⟨rfl,rfl,rfl,by omega,by omega,by simp⟩,?_⟩;rintro _ _ _ Ht j ⟨rfl,rfl,rfl,j0,j1,PN⟩;simp only[hxx];refine⟨⟨i0,hi⟩,?_⟩;intro _;refine⟨λhj=>?_,λhj=>?_⟩
    .have hj:=aF hj;have htj:=fW j0 hj;have em:decide (k2∈x.take (j+1).toNat)=(Ht||gi x j==k2):=by
      rw[htj,PN,jQ];simp only[aV,aY,aR,dS,gJ];constructor
      .rintro(h|h)
       .exact .inl h
       .exact .inr h.symm
      .rintro(h|h)
       .exact .inl h
       .exact .inr h.symm
     unfold VC54_J6 wI n5P;rw[dj (by omega) (by omega)];refine⟨λhb=>?_,λhb=>⟨⟨i0,hi⟩,λ_=>⟨⟨j0,hj⟩,?_⟩⟩⟩
     .exact⟨⟨rfl,rfl,rfl,by omega,by omega,by rw[em,hb];rfl⟩,by first|omega|(dsimp only;omega)⟩
     .exact⟨⟨rfl,rfl,rfl,by omega,by omega,by rw[em,hb];rfl⟩,by first|omega|(dsimp only;omega)⟩
    .have hj:=aL hj;rw[fc (by omega)]at PN;obtain⟨q,rfl⟩:=oF k0;have hrs:=KH x q;have hrl:=HU x q;rw[show((q:Nat):Int).toNat=q by omega]at ZM;have hnl:nx.length<=10000:=by rw[ZM,aS];omega
     unfold VC54_J5 VC54_J4 iF bD wI QG
     try simp only[hxx]
     rw[dj (by omega) (by omega)];refine⟨λhb=>⟨⟨i0,hi⟩,λ_=>⟨by simp;omega,by simp;omega,by simp;omega,?_⟩⟩,λhb=>?_⟩
     .rw[eI]at hb;rw[hb]at PN;rw[←PN,if_neg (by simp)]at hrs;exact⟨⟨by trivial,by trivial,by omega,by omega,by rw[show(((q:Nat):Int)+1).toNat=q+1 by omega,hrs,ZM];simp⟩,by first|omega|(dsimp only;omega)⟩
     .rw[nN]at hb;rw[hb]at PN;rw[←PN,if_pos rfl,fT]at hrs;exact⟨⟨by trivial,by trivial,by omega,by omega,by rw[show(((q:Nat):Int)+1).toNat=q+1 by omega,hrs,ZM]⟩,by first|omega|(dsimp only;omega)⟩
   .have yT:=aL yT;have:k2.toNat=m:=by omega
    unfold VC54_J3 wI QG;rw[dj (by omega) (by omega)];exact⟨⟨rfl,rfl,by omega,by omega,by rw[PD,ZM,this];simp⟩,by first|omega|(dsimp only;omega)⟩
  .have hi:=aL hi;have e:i.toNat=last.length:=by omega
   rw[e,gT,←Jh]at Nv;have hlv:next=QH m (k+1):=by rw[Nv,hla];rfl
   obtain⟨M1,_⟩:=TM (n:=m) (k:=k+1) (by omega) (by omega);rw[←hlv]at M1;have al6:mw (m:Int) (m+1-k) last=next++mw m (m+1-(k+1)) next:=by rw[show m+1-k=(m+1-(k+1))+1 by omega];show(if last=[]then []else _)=_;rw[if_neg hne,Nv]
   unfold VC54_J2 eM;refine⟨by omega,⟨k+1,by omega,hlv,by rw[aS];omega,by rw[bV,←al6];exact rp⟩,?_⟩;dsimp only;rw[aS,if_neg hne];by_cases hnn:next=[]
   .rw[if_pos hnn,hnn];simp
   .rw[if_neg hnn];have:0<next.length:=lB.2 hnn
    omega
 .have h:=aL h;have:last=[]:=jJ.1 (by omega);rw[this]at rp;unfold VC54_J1;rw[←rp];have:∀f,mw (m:Int) f []=[]:=λf=>by cases f<;>simp[mw]
  rw[this,fT]
theorem Gr:((List.range 6).all λn=>decide ((eT (n:Int)).length<=1000)&&(eT (n:Int)).all λx=>decide (x.length<=10))=true:=by decide +kernel
theorem O2{n:Nat}(hn:n<=5):(eT (n:Int)).length<=1000/\∀x∈eT (n:Int),x.length<=10:=by
 grind[Gr]
theorem v22(o:ae)(l:List aj)(hp:SL o l):VC22 o l (λr=>r=na o l):=by
 unfold VC22 iF bD lN dE fj;have hp:l.length<=5:=hp;intro _ _;refine⟨⟨by omega,by omega⟩,?_⟩;rintro _ rfl;intro _;obtain⟨q1,q2⟩:=O2 hp;unfold na;generalize eT (l.length:Int)=R at *; refine⟨λout i=>0<=i/\i<=R.length/\out=(R.take i.toNat).filterMap (w6 o l),λ_ i=>(R.length-i).toNat,⟨by omega,by omega,by simp⟩,?_⟩;rintro out i ⟨i0,i1,ho⟩;refine⟨λhi=>?_,λhi=>?_⟩
 .have hi:=aF hi;have hx:=q2 _ (dq i0 hi);have PD:=fW i0 hi;have XN:out.length<=1000:=by grind
  refine⟨⟨i0,hi⟩,λ_=>⟨by show(gi R i).length<=1000000;omega,?_⟩⟩;rintro _ rfl;intro _;have fin:∀b,b=decide ((eK o l (gi R i)).2=0/\fF o l (eK o l (gi R i)).1=true)->VC22_J3 (λout i=>0<=i/\i<=R.length/\out=(R.take i.toNat).filterMap (w6 o l)) (λ_ i=>(R.length-i).toNat) out i (eK o l (gi R i)) out b:=by
   intro b hb;unfold VC22_J3 VC22_J2 iF wI eM;rw[dj (by omega) (by omega)];refine⟨λh=>⟨by simp;omega,⟨by omega,by omega,?_⟩,by first|omega|(dsimp only;omega)⟩,λh=>⟨⟨by omega,by omega,?_⟩,by first|omega|(dsimp only;omega)⟩⟩
   .rw[h]at hb;have hb:=aF hb.symm;have e:w6 o l (gi R i)=some (eK o l (gi R i)).1:=by unfold w6;rw[if_pos hb]
    rw[PD,List.filterMap_append,ho];congr 1;rw[List.filterMap_cons_some e];rfl
   .rw[h]at hb;have hb:=aL hb.symm;have e:w6 o l (gi R i)=none:=by unfold w6;rw[if_neg hb]
    rw[PD,List.filterMap_append,ho,List.filterMap_cons_none e];simp
  refine⟨λh=>?_,λh=>?_⟩
  .rintro _ rfl;refine fin _ ?_;have h:(eK o l (gi R i)).2=0:=by simpa using h
   simp[h]
  .refine fin _ ?_;have h:¬(eK o l (gi R i)).2=0:=by simpa using h
   simp[h]
 .have hi:=aL hi;rw[fc (by omega)]at ho;exact ho
theorem J3{x:aj}(h:e9 x=0):0<=x.cn/\(x.End=-1∨x.End>x.cn):=by
 unfold e9 at h;split at h
 .cases h
 .split at h
  .cases h
  .split at h
   .cases h
   .rename_i h1 _ h3;refine⟨by omega,?_⟩;have h3:gN x=true:=by simpa using h3
    unfold gN at h3;split at h3
    .left;assumption
    .right;simp only[ak,aR]at h3;exact h3.1.1.1
theorem UD{n:Nat}{L:List (List Int)}{y:List Int}:y∈grow (n:Int) L↔∃x∈L,∃k:Nat,k<n/\(k:Int)∉x/\y=x++[(k:Int)]:=by
 rw[Jh,cf];refine exists_congr λx=>and_congr Iff.rfl ?_;unfold uj;grind
theorem Nj{n:Nat}:∀(k:Nat)(y:List Int),y.length=k->y.Nodup->(∀i∈y,0<=i/\i<n)->y∈QH n k
 |0,y,h,_,_=>by obtain rfl:=jJ.1 h;simp[QH]
 |k+1,y,h,hn,hr=>by
  rcases List.eq_nil_or_concat y with e|⟨x,a,e⟩
  .subst e;simp at h
  .rw[List.concat_eq_append]at e;subst e;rw[List.nodup_append]at hn;have ih:=Nj k x (by simpa using h) hn.1 (λi hi=>hr i (by simp[hi]));have ha:=hr a (by simp);refine UD.2 ⟨x,ih,a.toNat,by omega,?_,?_⟩
   .rw[show((a.toNat:Nat):Int)=a by omega];intro hm;exact hn.2.2 a hm a (by simp) rfl
   .rw[show((a.toNat:Nat):Int)=a by omega]
theorem K8:((List.range 6).all λn=>(List.range 6).all λk=>(QH n k).all λx=>(eT (n:Int)).contains x)=true:=by decide +kernel
theorem K9{n:Nat}(hn:n<=5){y:List Int}(hd:y.Nodup)(hr:∀i∈y,0<=i/\i<n):y∈eT (n:Int):=by
 have h:=K8;rw[aO]at h;have h:=h n (bM.2 (by omega));rw[aO]at h;have hc:=EU n y hd hr;have h:=h y.length (bM.2 (by omega));rw[aO]at h;have:=h y (Nj y.length y rfl hd hr);grind
theorem Ln{o:ae}{l:List aj}{y:List Int}{x:List aC}(h:w6 o l y=some x):opers x=y/\fF o l x=true:=by
 unfold w6 at h;split at h
 .rename_i hh;obtain rfl:=Option.some.inj h;refine⟨?_,hh.2⟩;have h1:=hh.1;unfold eK rQ at h1 ⊢; split at h1
  .rename_i hm;exact absurd h1 hm
  .rename_i hm;rw[if_neg hm];exact(HT h1).2
 grind
theorem YQ{o:ae}{l:List aj}(hc:(aJ o).2=0)(hl:(cU l).2=0)(h5:l.length<=5){x:List aC}:x∈na o l↔mX o l x=true:=by
 unfold na;rw[List.mem_filterMap,abF hc hl];constructor
 .rintro⟨y,_,h⟩;exact(Ln h).2
 .intro h;obtain⟨hm,_,_⟩:=Ll hc;have hr:=(Nh.1 h).1;obtain⟨p1,p2⟩:=Cn hr;refine⟨opers x,K9 h5 p1 p2,?_⟩;have er:ja o l x=fY o l [] o.eZ x:=by unfold ja dC;rw[hm,if_neg (by decide)]
  rw[er]at hr;have hf:eK o l (opers x)=(x,0):=by unfold eK rQ;rw[if_neg (by omega)];exact Jz hr
  unfold w6;rw[hf,if_pos ⟨rfl,h⟩]
theorem v152(s:ab):VC152 s (λr=>r=au s):=by
 simp only[VC152,au,du,dS,aR,cO,bp,iF,dE];omega
theorem v66(ops xk:Int):VC66 ops xk (λr=>r=du ops xk):=by
 simp only[VC66,du,dS,aR,cO,bp,iF,dE];omega
theorem v166(s:ab)(k:Int):VC166 s k (λr=>r=dY s k):=by
 simp only[VC166,dY,gJ,pG,iF,wI];grind
theorem iQ{o s:Int}(h:du o s=0):0<=o/\o<=64/\1<=s/\s<=32:=by
 unfold du at h;split at h<;>omega
theorem JT{s:ab}(h:au s=0)(k:Int):dY s k=(base s k,wide s k,D4 s k):=by
 obtain⟨h0,h1,h2,h3⟩:=iQ h;have hm:=yI h0 h1 h0 h1;unfold dY base wide D4;grind[dj]
theorem v105(s:ab):VC105 s (λr=>r=aM s):=by
 unfold VC105 iF wI;intro r hr;subst hr;refine⟨λh=>?_,λh=>?_⟩
 .have h:au s≠0:=by simpa using h
  simp[aM,h]
 .have h:au s=0:=by simpa using h
  intro r hr;subst hr;obtain⟨h0,h1,h2,h3⟩:=iQ h;have hm:=yI h0 h1 h0 h1;have hn:=yI (a:=s.az) (b:=s.bI+1) (by omega) h3 (by omega) (by omega:s.bI+1<=65);rw[JT h];simp only[base,wide,D4,aM,h,if_true];simp only[show(3:Int)≠1 by decide,show(3:Int)≠2 by decide,gI];rw[dj (n:=s.az*(s.bI+1)) (by omega) (by omega),dj (by omega) (by omega)]
theorem aal{s:ab}(h:au s=0)(k:Int):0<=wide s k/\wide s k<=64/\0<=D4 s k/\D4 s k<=65/\0<=base s k/\base s k<=4160:=by
 obtain⟨h0,h1,h2,h3⟩:=iQ h;have hm:=yI h0 h1 h0 h1;unfold wide D4 base;omega
theorem v158(s:ab)(n:cH):VC158 s n (λr=>r=cw s n):=by
 unfold VC158 iF wI dE;intro r hr;subst hr;simp only[dS,aR,cO,bp,fJ,gq];refine⟨λh=>?_,λh=>?_⟩
 .unfold cw;rw[if_neg];intro hh;rcases h with(h|h)|h
  .exact h hh.1
  .omega
  .omega
 .intro r hr;subst hr;obtain⟨⟨hc,hk0⟩,Ed⟩:=h;rw[JT hc];have hb:=aal hc n.Kind;refine⟨λh=>?_,λh=>?_⟩
  .unfold cw;rw[if_neg];intro hh;simp only at h;omega
  .simp only at h ⊢; have hm:=yI (a:=n.A) (b:=wide s n.Kind) (A:=65) (B:=64) (by omega) (by omega) (by omega) (by omega);unfold cw;rw[if_pos ⟨hc,by omega,by omega,by omega,by omega,by omega,by omega⟩];rw[dj (n:=n.A*_) (by omega) (by omega),dj (n:=_+n.A*_) (by omega) (by omega),dj (n:=_+n.B) (by omega) (by omega),dj (by omega) (by omega)]
theorem vc:∀l:List Int,(sf l).length<=l.length*l.length
 |[]=>aK _
 |x::r=>by have:=vc r;simp only[sf,aS,da,bc,Nat.add_mul,Nat.mul_add];omega
theorem Xi{l:List Int}(h:oY l):(sf l).length<=1000000000000:=by
 have h1:=vc l;have h2:l.length*l.length<=1000000*1000000:=gn h h;omega
theorem v155(l:List Int)(h:oY l):VC155 l (λr=>r=iw l):=by
 unfold VC155 iF bD lN wI dE fj eM;intro _;have hb:=Xi h;have hl:l.length<=1000000:=h;refine⟨λout i=>∃x:Nat,i=x/\x<=l.length/\out++sf (l.drop x)=sf l,λ_ i=>(l.length-i).toNat,⟨0,rfl,by omega,by simp⟩,?_⟩;rintro out _ ⟨x,rfl,hx,ho⟩;simp only[aR,bp];refine⟨λhi=>?_,λhi=>?_⟩
 .have hi:x<l.length:=by omega
  rw[wz hi,sf]at ho;rw[dj (n:=(x:Int)+1) (by omega) (by omega)];have e:((x:Int)+1).toNat=x+1:=by omega
  rw[e];refine⟨by omega,by omega,λout k=>∃y:Nat,k=y/\y<=(l.drop (x+1)).length/\out++(((l.drop (x+1)).drop y).map (λz=>[lU (gi l x),lU z])++sf (l.drop (x+1)))=sf l,λ_ k=>((l.drop (x+1)).length-k).toNat,⟨0,rfl,by omega,by simpa using ho⟩,?_⟩;rintro ajm _ ⟨y,rfl,hy,ho2⟩;have Ux:(l.drop (x+1)).length=l.length-(x+1):=by simp
  refine⟨λhk=>?_,λhk=>?_⟩
  .have hk:y<(l.drop (x+1)).length:=by omega
   have hlen:ajm.length+1<=(sf l).length:=by grind
   rw[wz hk,ba]at ho2;refine⟨by omega,by simp;omega,?_⟩;rw[dj (n:=(y:Int)+1) (by omega) (by omega)];refine⟨⟨y+1,by simp,by omega,?_⟩,by dsimp only;omega⟩;rw[←ho2];simp[lU]
  .have:y=(l.drop (x+1)).length:=by omega
   subst this;unfold VC155_J2 wI eM;rw[dj (by omega) (by omega)];refine⟨⟨x+1,by simp,by omega,?_⟩,by dsimp only;omega⟩;rw[List.drop_length]at ho2;simpa using ho2
 .have:x=l.length:=by omega
  subst this;unfold VC155_J1;simpa[sf,iw]using ho
theorem Ng{m:List Bool}{l:Int}(h0:1<=l)(h1:l<=m.length)(h2:l<=100000):yN m l=gi m (l-1):=by
 have e:fR l=(l,true):=by unfold fR;rw[if_pos (by omega)]
 unfold yN;grind
theorem yM{m:List Bool}{l:Int}(h0:1<=l)(h1:l<=m.length)(h2:l<=100000):yN m (lU l)=!gi m (l-1):=by
 have e:fR (lU l)=(l,false):=by unfold lU;rw[dj (by omega) (by omega)];unfold fR;rw[if_neg (by omega),if_pos (by omega)];grind
 unfold yN;grind
def VO(m:List Bool)(l:Int):Prop:=1<=l/\l<=m.length/\l<=100000
theorem zX{m:List Bool}{L:List Int}(hL:∀x∈L,VO m x):cX L m=L.any (λx=>gi m (x-1)):=by
 unfold cX
 induction L with
 |nil=>rfl
 |cons x r ih=>obtain⟨a,b,c⟩:=hL x (by simp);grind[Ng]
theorem tM{m:List Bool}:∀{L:List Int},(∀x∈L,VO m x)->((sf L).all (λc=>cX c m)=true↔(L.filter (λx=>gi m (x-1))).length<=1)
 |[],_=>by simp[sf]
 |x::r,hL=>by
  obtain⟨a,b,c⟩:=hL x (by simp);have ih:=tM (L:=r) (λy hy=>hL y (by simp[hy]));have e:(r.map (λy=>[lU x,lU y])).all (λc=>cX c m)=true↔(gi m (x-1)=true->r.filter (λx=>gi m (x-1))=[]):=by
   rw[List.all_map,aO];constructor
   .intro h hx;rw[List.filter_eq_nil_iff];intro y hy;obtain⟨a',b',c'⟩:=hL y (by simp[hy]);have:=h y hy;simp only[Function.comp,cX,fB,kU,yM a b c,yM a' b' c',hx]at this;simpa using this
   .intro h y hy;obtain⟨a',b',c'⟩:=hL y (by simp[hy]);simp only[Function.comp,cX,fB,kU,yM a b c,yM a' b' c'];cases hx:gi m (x-1)with
    |false=>rfl
    |true=>simp_all
  rw[sf,jR,ak,e,ih,List.filter_cons];cases hx:gi m (x-1)with
  |false=>simp
  |true=>grind[only,List.length_cons,List.length_eq_zero_iff]
theorem wu(n:Int)(c:List (List Int))(m:List Bool):qI ⟨n,c⟩ m<0↔c.all (λc=>cX c m)=true:=by
 unfold qI;cases h:c.findIdx? (λc=>!cX c m)with
 |none=>grind
 |some i=>grind[only,List.findIdx?_eq_some_iff_getElem,List.all_eq_true,List.getElem_mem]
theorem any_filter(L:List Int)(f:Int->Bool):L.any f=true↔1<=(L.filter f).length:=by
 rw[nM];constructor
 .rintro⟨x,hx,hf⟩;exact List.length_pos_of_mem (List.mem_filter.mpr ⟨hx,hf⟩)
 .intro h;obtain⟨x,hx⟩:=List.exists_mem_of_length_pos h;rw[dx]at hx;exact⟨x,hx.1,hx.2⟩
theorem F9{α:Type}(A r:List α)(b v:α){n:Nat}(h:n=A.length):(A++b::r).set n v=A++v::r:=by
 simp_all
theorem Ua{l:List Int}{v i:Int}(h0:0<=i)(h1:i<l.length)(h:gi l i=v)(h2:∀j:Int,0<=j->j<i->gi l j≠v):idx l v=i:=by
 unfold idx;rw[G9 (f:=λx=>x==v) h0 h1 (by simpa using h) (λj j0 j1=>by simpa using h2 j j0 j1)];grind
theorem abO{l:List Int}{v:Int}(h2:∀j:Int,0<=j->j<l.length->gi l j≠v):idx l v=-1:=by
 unfold idx;grind[G8]
theorem XG{l:List Int}{v:Int}:0<=idx l v↔v∈l:=by
 unfold idx;cases h:l.findIdx? (λx=>x==v)with
 |none=>grind
 |some i=>grind[List.findIdx?_eq_some_iff_getElem,only,List.getElem_mem]
theorem v141(l:List Int)(v:Int):VC141 l v (λr=>r=iu l v):=by
 unfold VC141 iF bD lN wI dE oM oK;intro hl;simp only[sm]at hl;refine⟨λi=>0<=i/\i<=l.length/\∀j:Int,0<=j->j<i->gi l j≠v,λi=>(l.length-i).toNat,⟨by omega,by omega,λj h0 h1=>by omega⟩,?_⟩;rintro i ⟨h0,h1,h2⟩;simp only[aR,bp];refine⟨λhi=>⟨⟨by omega,by omega⟩,λhe=>?_,λhe=>?_⟩,λhi=>?_⟩
 .exact(Ua h0 hi (by rw[gJ]at he;exact he.symm) h2).symm
 .rw[dj (by omega) (by omega)];refine⟨⟨by omega,by omega,λj j0 j1=>?_⟩,by omega⟩;by_cases hj:j<i
  .exact h2 j j0 hj
  .rw[show j=i by omega];intro h;rw[h]at he;simp at he
 .exact(abO (λj j0 j1=>h2 j j0 (by omega))).symm
theorem v89(l:List Int)(v:Int):VC89 l v (λr=>r=cb l v):=by
 unfold VC89 dE;intro _ r hr;subst hr;unfold cb iu;rw[jQ,aR,aR];exact XG
theorem yC{s:ab}{a k:Int}(hc:au s=0)(ha:0<=a)(QS:a<s.bI)(hk:0<=k)(Ed:k<s.bI):
  eG s a k=a*s.bI+k+1/\1<=eG s a k/\eG s a k<=s.bI*s.bI/\s.bI*s.bI<=aM s/\aM s<=10000:=by
 obtain⟨h0,h1,h2,h3⟩:=iQ hc;have hm:=yI h0 h1 h0 h1;have hn:=yI (a:=a) (b:=s.bI) ha (by omega:a<=64) h0 h1;have hz:=yI (a:=s.bI) (b:=s.az) h0 h1 (by omega) h3;have yT:(a+1)*s.bI<=s.bI*s.bI:=Int.mul_le_mul_of_nonneg_right (by omega) h0;rw[Int.add_mul,Int.one_mul]at yT;have hv:aM s=s.bI*s.bI+s.bI+(s.bI*s.az+s.az):=by unfold aM;rw[if_pos hc,Int.mul_add,Int.mul_comm s.az,Int.mul_one]
 have e:eG s a k=a*s.bI+k+1:=by
  unfold eG cw;rw[if_pos]
  .simp[base,wide]
  .refine⟨hc,by simp,by simp,ha,?_,hk,?_⟩
   .simpa[D4]using QS
   .simpa[wide]using Ed
 omega
theorem xz:∀(n:Nat)(l:List Int),l.Nodup->(∀x∈l,0<=x/\x<n)->l.length<=n
 |0,[],_,_=>by simp
 |0,x::l,_,h=>by have:=h x (by simp);omega
 |n+1,l,hd,h=>by
  have h1:=xz n (l.erase (n:Int)) (hd.erase _) (λx hx=>by
   rw[hd.mem_erase_iff]at hx;have:=h x hx.2;omega)
  grind
theorem tA{n:Nat}{l:List Int}(hd:l.Nodup)(h:∀x∈l,0<=x/\x<n)(hl:l.length=n){i:Int}(h0:0<=i)(h1:i<n):i∈l:=by
 apply fC;intro hi;have:=xz n (i::l) (List.nodup_cons.mpr ⟨hi,hd⟩) (λx hx=>by
  rcases List.mem_cons.mp hx with rfl|hx
  .exact⟨h0,h1⟩
  .exact h x hx)
 grind
theorem aap{α:Type}{l:List α}{p q:α}(hp:p∈l)(hq:q∈l)(hne:p≠q):2<=l.length:=by
 match l,hp,hq with
 |[x],hp,hq=>grind
 |x::y::r,_,_=>simp
theorem Of{n:Int}(h0:0<=n)(h1:n<18446744073709551616):IntKind.u64.wrap n=n:=by
 simp[IntKind.wrap,IntKind.signed,IntKind.bits];omega
theorem ahx{z:Int}(h0:0<=z)(h1:z<4294967296):((BitVec.ofInt IntKind.u64.bits z &&& BitVec.ofInt IntKind.u64.bits 4294967295).toNat:Int)=z:=by
 show(((BitVec.ofInt 64 z &&& BitVec.ofInt 64 4294967295).toNat:Nat):Int)=z;have e:(BitVec.ofInt 64 4294967295).toNat=2^32-1:=by decide
 rw[BitVec.toNat_and,e,Nat.and_two_pow_sub_one_eq_mod,BitVec.toNat_ofInt];omega
theorem UT{z:Int}(h0:0<=z)(h1:z<4294967296):z.fdiv (2^32)=0:=by
 grind
theorem v280(x y:Int)(h:xu x y):VC280 x y (λr=>r=lK x y):=by
 obtain⟨x0,x1,y0,y1⟩:=h;have hm:=yI x0 x1 y0 y1;unfold VC280 lK;have ax:=ahx (z:=x) x0 (by omega);have ay:=ahx (z:=y) y0 (by omega);have fx:=UT (z:=x) x0 (by omega);have fy:=UT (z:=y) y0 (by omega);have fxy:=UT (z:=x*y) hm.1 (by omega);have wx:=Of (n:=x) x0 (by omega);have wy:=Of (n:=y) y0 (by omega);have w0:=Of (n:=0) (by omega) (by omega);have wxy:=Of (n:=x*y) hm.1 (by omega);simp_all
theorem v214(x y:Int)(h:xu x y):VC214 x y (λr=>r=gH x y):=by
 refine⟨h,?_⟩;rintro _ rfl;rfl
theorem v130(l:List Int)(n:Int)(h:KS l n):VC130 l n (λr=>r=fA l n):=by
 unfold VC130 iF lN wI dE fj eM;obtain⟨hl,h0,h1⟩:=h;obtain⟨N,rfl⟩:=oF h0
 match l,hl with
 |[v],_ =>
 intro _;have e1:IntKind.u64.wrap (([v].length:Nat):Int)=1:=Of (n:=1) (by omega) (by omega);have e2:IntKind.u64.wrap (N:Int)=N:=Of (by omega) (by omega);rw[e1,e2];refine⟨λh=>?_,λ_=>⟨⟨by omega,by omega,by omega,by omega⟩,?_⟩⟩
 .rw[aR]at h;omega
 rintro _ rfl;unfold gH;rw[Int.one_mul];refine⟨λh=>?_,λ_=>?_⟩
 .simp only[dS,aR]at h;omega
 rw[dj (by omega) (by omega)];have e3:((N:Int)).toNat=N:=rfl;rw[e3];have key:∀t:Nat,t<=N->∀m,m=min t (N-t)->(List.replicate t v++List.replicate (N-t) (0:Int)).take t++((List.replicate t v++List.replicate (N-t) (0:Int)).take t).take ((List.replicate t v++List.replicate (N-t) (0:Int)).length-t)++(List.replicate t v++List.replicate (N-t) (0:Int)).drop (t+m)=List.replicate (t+m) v++List.replicate (N-(t+m)) 0:=by
  intro t ht m hm;have a3:(List.replicate t v++List.replicate (N-t) (0:Int)).drop (t+m)=List.replicate (N-(t+m)) 0:=by grind[List.drop_append,List.drop_eq_nil_of_le,List.length_replicate]
  grind[a2,a3,List.replicate_append_replicate]
 refine⟨by omega,λl k=>∃t:Nat,k=t/\t<=N/\(N=0∨0<t)/\l=List.replicate t v++List.replicate (N-t) 0,λ_ k=>(N-k).toNat,?_,?_⟩
 .refine⟨min 1 N,by simp,by omega,by omega,?_⟩;rcases Nat.eq_zero_or_pos N with rfl|hN
  .simp
  .rw[ky hN];simp only[oE,bc,cN,bh,Nat.sub_zero,List.take_zero,gU,ky hN,List.drop_replicate];rw[fc (by simp;omega)];rfl
 rintro _ _ ⟨t,rfl,ht,uA,rfl⟩;have a1:(List.replicate t v++List.replicate (N-t) (0:Int)).length=N:=by simp;omega
 have a2:((List.replicate t v++List.replicate (N-t) (0:Int)).take t).length=t:=by grind
 have e4:((t:Int)).toNat=t:=rfl;refine⟨λeB=>?_,λhge=>?_⟩
 .rw[aR,a1]at eB;rw[e4,a1,a2];refine⟨by omega,by omega,?_⟩;rw[dj (by omega) (by omega)];refine⟨⟨t+min t (N-t),by omega,by omega,by omega,?_⟩,by dsimp only;omega⟩;have:=key t ht _ rfl;rw[a1]at this;exact this
 .rw[bp,a1]at hge;have:t=N:=by omega
  subst this;unfold VC130_J1 fA;simp[gi]
theorem OV(s:ab)(a:Int)(t:Nat):wF s a (t+1)=wF s a t++[eG s a (t:Int)]:=by
 unfold wF;rw[jS,gp];rfl
theorem OX(s:ab)(k:Int)(t:Nat):xx s k (t+1)=xx s k t++[eG s (t:Int) k]:=by
 unfold xx;rw[jS,gp];rfl
theorem yA(s:ab)(a:Int)(t:Nat):(wF s a t).length=t:=by simp[wF]
theorem Co(s:ab)(a:Int)(t:Nat):(xx s a t).length=t:=by simp[xx]
theorem v154(k a:Int):VC154 k a (λr=>r=kH k a):=rfl
theorem v156(k a:Int):VC156 k a (λr=>r=kG k a):=rfl
theorem v153_154(s:ab)(a:Int)(h:vW s a):VC153_154 s a (λr=>r=dQ s a):=by
 obtain⟨h0,h1⟩:=h;unfold VC153_154 iF bD lN wI dE fj eM;obtain⟨n,hn⟩:=oF h0;have hk:s.bI.toNat=n:=by omega
 simp only[hk,oE,aR,bp];refine⟨by omega,λout x=>∃t:Nat,x=t/\t<=n/\out=wF s a t++List.replicate (n-t) 0,λ_ x=>(n-x).toNat,⟨0,rfl,by omega,by simp[wF]⟩,?_⟩;rintro _ _ ⟨t,rfl,ht,rfl⟩;refine⟨λhx=>?_,λhx=>?_⟩
 .rintro _ rfl _ rfl;rw[dj (by omega) (by omega)];have hl:=yA s a t;refine⟨⟨by omega,by simp[hl];omega⟩,⟨t+1,by simp,by omega,?_⟩,by dsimp only;omega⟩;rw[show n-t=(n-(t+1))+1 by omega,List.replicate_succ,F9 _ _ _ _ (by simp[hl]),OV];simp[kH,eG]
 .have:t=n:=by omega
  subst this;unfold VC153_154_J1 dQ;simp[hk]
theorem v153_156(s:ab)(a:Int)(h:vW s a):VC153_156 s a (λr=>r=dP s a):=by
 obtain⟨h0,h1⟩:=h;unfold VC153_156 iF bD lN wI dE fj eM;obtain⟨n,hn⟩:=oF h0;have hk:s.bI.toNat=n:=by omega
 simp only[hk,oE,aR,bp];refine⟨by omega,λout x=>∃t:Nat,x=t/\t<=n/\out=xx s a t++List.replicate (n-t) 0,λ_ x=>(n-x).toNat,⟨0,rfl,by omega,by simp[xx]⟩,?_⟩;rintro _ _ ⟨t,rfl,ht,rfl⟩;refine⟨λhx=>?_,λhx=>?_⟩
 .rintro _ rfl _ rfl;rw[dj (by omega) (by omega)];have hl:=Co s a t;refine⟨⟨by omega,by simp[hl];omega⟩,⟨t+1,by simp,by omega,?_⟩,by dsimp only;omega⟩;rw[show n-t=(n-(t+1))+1 by omega,List.replicate_succ,F9 _ _ _ _ (by simp[hl]),OX];simp[kG,eG]
 .have:t=n:=by omega
  subst this;unfold VC153_156_J1 dP;simp[hk]
theorem GH{l:List Int}(h:l.length<=64):(sf l).length<=4096:=by
 have h1:=vc l;have h2:l.length*l.length<=64*64:=gn h h;omega
theorem JV{s:ab}(h:s.bI<=64)(a:Nat):(Hk s a).length<=4097:=by
 have:=GH (l:=wF s (a:Int) s.bI.toNat) (by rw[yA];omega);unfold Hk;rw[bc];omega
theorem JW{s:ab}(h:s.bI<=64)(a:Nat):(Qn s a).length<=4096 :=
 GH (l:=xx s (a:Int) s.bI.toNat) (by rw[Co];omega)
theorem sB{f:Nat->List (List Int)}{m:Nat}(h:∀a,(f a).length<=m):∀t,((List.range t).flatMap f).length<=m*t
 |0=>by simp
 |t+1=>by have h1:=sB h t;grind[List.range_succ,List.length_append,Nat.mul_add,only]
theorem qj(f:Nat->List (List Int))(t:Nat):(List.range (t+1)).flatMap f=(List.range t).flatMap f++f t:=by
 grind[List.range_succ]
theorem v100(s:ab):VC100 s (λr=>r=di s):=by
 unfold VC100 iF wI dE fj eM;rintro _ rfl;simp only[fJ,gq];refine⟨λh=>?_,λhc=>?_⟩
 .unfold di;rw[if_neg h]
 .obtain⟨c0,c1,c2,c3⟩:=iQ hc;simp only[aR,bp];refine⟨λout x=>∃t:Nat,x=t/\(t:Int)<=s.bI/\out=(List.range t).flatMap (Hk s),λ_ x=>(s.bI-x).toNat,⟨0,rfl,by omega,by simp⟩,?_⟩;rintro _ _ ⟨t,rfl,ht,rfl⟩;have hl:=sB (JV (s:=s) c1) t;refine⟨λhx=>⟨⟨c0,c1⟩,?_⟩,λhx=>?_⟩
  .rintro _ rfl _;unfold dQ;have A9:=yA s (t:Int) s.bI.toNat
   have hm:=GH (l:=wF s (t:Int) s.bI.toNat) (by omega);refine⟨by simp only[aS,bc,cN];omega,by unfold oY;omega,?_⟩;rintro _ rfl _;unfold iw;rw[dj (by omega) (by omega)];refine⟨by simp only[aS,bc,cN];omega,⟨t+1,by simp,by omega,?_⟩,by dsimp only;omega⟩;rw[qj];simp[Hk]
  .have:t=s.bI.toNat:=by omega
   subst this;unfold VC100_J1 iF wI dE fj eM;simp only[aR,bp];refine⟨λout x=>∃t:Nat,x=t/\(t:Int)<=s.bI/\out=(List.range s.bI.toNat).flatMap (Hk s)++(List.range t).flatMap (Qn s),λ_ x=>(s.bI-x).toNat,⟨0,rfl,by omega,by simp⟩,?_⟩;rintro _ _ ⟨t,rfl,ht,rfl⟩;have ZS:=sB (JW (s:=s) c1) t;refine⟨λhx=>⟨⟨c0,c1⟩,?_⟩,λhx=>?_⟩
   .rintro _ rfl _;unfold dP;have A9:=Co s (t:Int) s.bI.toNat
    have hm:=GH (l:=xx s (t:Int) s.bI.toNat) (by omega);refine⟨by unfold oY;omega,?_⟩;rintro _ rfl _;unfold iw;rw[dj (by omega) (by omega)];refine⟨by simp only[aS,bc,cN];omega,⟨t+1,by simp,by omega,?_⟩,by dsimp only;omega⟩;rw[qj];simp[Qn]
   .have:t=s.bI.toNat:=by omega
    subst this;unfold VC100_J2 di;rw[if_pos hc]
theorem nP{t:Nat}{p:Int->Bool}{x:Int}:x∈sS t p↔0<=x/\x<t/\p x=true:=by
 unfold sS;rw[dx,aq];constructor
 .rintro⟨⟨y,hy,rfl⟩,h⟩;exact⟨by simp,by simpa using hy,h⟩
 .rintro⟨h0,h1,h⟩;exact⟨⟨x.toNat,by rw[bM];omega,by simp;omega⟩,h⟩
theorem Gc{t:Nat}{p:Int->Bool}(h:(sS t p).length=1):sS t p=[(sS t p).getLastD (-1)]:=by
 match hs:sS t p,h with
 |[x],_=>rfl
theorem Xm(n:Nat)(R:Int->Int->Bool)(h1:∀a:Nat,a<n->(sS n (R a)).length=1)(h2:∀k:Nat,k<n->(sS n (λa=>R a k)).length<=1):∀k:Nat,k<n->(sS n (λa=>R a k)).length=1:=by
 intro k hk;have f:∀a:Nat,a<n->0<=(sS n (R a)).getLastD (-1)/\(sS n (R a)).getLastD (-1)<n/\R a ((sS n (R a)).getLastD (-1))=true:=by intro a ha;have:=Gc (h1 a ha);exact nP.mp (this▸List.mem_singleton_self _)
 have hd:((List.range n).map (λ(a:Nat)=>(sS n (R a)).getLastD (-1))).Nodup:=by
  rw[List.nodup_iff_pairwise_ne,List.pairwise_map];refine List.Pairwise.imp_of_mem ?_ (List.nodup_iff_pairwise_ne.mp List.nodup_range);intro a b ha hb hne he;rw[bM]at ha hb;obtain⟨a0,a1,a2⟩:=f a ha;obtain⟨b0,b1,b2⟩:=f b hb;rw[he]at a2;have yT:=h2 ((sS n (R b)).getLastD (-1)).toNat (by omega)
  rw[show((((sS n (R b)).getLastD (-1)).toNat:Nat):Int)=(sS n (R b)).getLastD (-1) by omega]at yT;have:=aap (p:=(a:Int)) (q:=(b:Int)) (nP (t:=n) (p:=λx=>R x ((sS n (R b)).getLastD (-1))) |>.mpr ⟨by omega,by omega,a2⟩) (nP.mpr ⟨by omega,by omega,b2⟩) (by omega);omega
 have hm:=tA (n:=n) hd (λx hx=>by
  rw[aq]at hx;obtain⟨a,ha,rfl⟩:=hx;rw[bM]at ha;exact⟨(f a ha).1,(f a ha).2.1⟩) (by simp) (i:=(k:Int)) (by omega) (by omega)
 rw[aq]at hm;obtain⟨a,ha,he⟩:=hm;rw[bM]at ha;have:=(f a ha).2.2;rw[he]at this;have h3:=List.length_pos_of_mem (nP (t:=n) (p:=λx=>R x k) |>.mpr ⟨by omega,by omega,this⟩);grind
theorem Iu{s:ab}{m:List Bool}(h:lu s m){a:Nat}(ha:a<s.bI.toNat):(sS s.bI.toNat (wG s m (a:Int))).length=1:=h.2.2.1 a (List.mem_range.mpr ha)
theorem CO{s:ab}{m:List Bool}(h:lu s m){k:Nat}(hk:k<s.bI.toNat):(sS s.bI.toNat (λa=>wG s m a (k:Int))).length=1:=h.2.2.2 k (List.mem_range.mpr hk)
theorem abw{s:ab}{m:List Bool}(hc:au s=0)(hl:(m.length:Int)=aM s)(h1:∀a:Nat,a<s.bI.toNat->(sS s.bI.toNat (wG s m (a:Int))).length=1)(h2:∀k:Nat,k<s.bI.toNat->(sS s.bI.toNat (λa=>wG s m a (k:Int))).length<=1):lu s m :=
 ⟨hc,hl,λa ha=>h1 a (List.mem_range.mp ha),λk hk=>Xm s.bI.toNat (wG s m) h1 h2 k (List.mem_range.mp hk)⟩
theorem Mg{s:ab}{m:List Bool}{k:Nat}(h:(sS s.bI.toNat (λa=>wG s m a (k:Int))).length=1):0<=VK s m s.bI.toNat k/\VK s m s.bI.toNat k<s.bI.toNat/\wG s m (VK s m s.bI.toNat k) k=true:=by
 have hm:VK s m s.bI.toNat k∈sS s.bI.toNat (λa=>wG s m a (k:Int)):=by unfold VK;grind
 exact nP.mp hm
theorem Q5{s:ab}{m:List Bool}{t j:Nat}(h:j<t):gi ((List.range t).map (VK s m s.bI.toNat)) (j:Int)=VK s m s.bI.toNat j:=by
 grind[dM]
theorem PY(s:ab)(m:List Bool)(a:Int)(t:Nat):((wF s a t).filter (λx=>gi m (x-1))).length=(sS t (wG s m a)).length:=by
 unfold wF sS;rw[pz,pz,da,da];rfl
theorem PZ(s:ab)(m:List Bool)(k:Int)(t:Nat):((xx s k t).filter (λx=>gi m (x-1))).length=(sS t (λa=>wG s m a k)).length:=by
 unfold xx sS;rw[pz,pz,da,da];rfl
theorem LX{s:ab}{m:List Bool}(hc:au s=0)(hl:(m.length:Int)=aM s)(v:Int):qI ⟨v,di s⟩ m<0↔lu s m:=by
 have okr:∀a:Nat,a<s.bI.toNat->∀x∈wF s (a:Int) s.bI.toNat,VO m x:=by intro a ha x hx;unfold wF at hx;rw[aq]at hx;obtain⟨k,hk,rfl⟩:=hx;rw[bM]at hk;obtain⟨e,e1,e2,e3,e4⟩:=yC hc (a:=(a:Int)) (k:=(k:Int)) (by omega) (by omega) (by omega) (by omega);exact⟨e1,by omega,by omega⟩
 have S8:∀k:Nat,k<s.bI.toNat->∀x∈xx s (k:Int) s.bI.toNat,VO m x:=by intro k hk x hx;unfold xx at hx;rw[aq]at hx;obtain⟨a,ha,rfl⟩:=hx;rw[bM]at ha;obtain⟨e,e1,e2,e3,e4⟩:=yC hc (a:=(a:Int)) (k:=(k:Int)) (by omega) (by omega) (by omega) (by omega);exact⟨e1,by omega,by omega⟩
 have hP:∀a:Nat,a<s.bI.toNat->((Hk s a).all (λc=>cX c m)=true↔(sS s.bI.toNat (wG s m (a:Int))).length=1):=by intro a ha;unfold Hk;rw[cd,ak,zX (okr a ha),tM (okr a ha),any_filter,PY];omega
 have hC:∀k:Nat,k<s.bI.toNat->((Qn s k).all (λc=>cX c m)=true↔(sS s.bI.toNat (λa=>wG s m a (k:Int))).length<=1):=by intro k hk;unfold Qn;rw[tM (S8 k hk),PZ]
 rw[wu];unfold di;rw[if_pos hc,jR,ak,List.all_flatMap,List.all_flatMap,aO,aO];constructor
 .rintro⟨h1,h2⟩;exact abw hc hl (λa ha=>(hP a ha).mp (h1 a (List.mem_range.mpr ha))) (λk hk=>(hC k hk).mp (h2 k (List.mem_range.mpr hk)))
 grind[Iu,Nat.le_of_eq,CO]
theorem v161(s:ab)(a b:Int):VC161 s a b (λr=>r=cA s a b):=by
 intro r hr;exact hr.symm
theorem v163(b:Int)(s:ab)(a:Int):VC163 b s a (λr=>r=kD b s a):=by
 intro r hr;exact hr.symm
theorem N6{s:ab}{a b:Int}(hc:au s=0)(ha:0<=a)(QS:a<=s.bI)(hb:0<=b)(hb1:b<s.az):
  cA s a b=s.bI*s.bI+s.bI+a*s.az+b+1/\1<=cA s a b/\cA s a b<=aM s/\aM s<=10000:=by
 obtain⟨h0,h1,h2,h3⟩:=iQ hc;have hm:=yI h0 h1 h0 h1;have hn:=yI (a:=a) (b:=s.az) ha (by omega:a<=64) (by omega) h3;have hk:a*s.az<=s.bI*s.az:=Int.mul_le_mul_of_nonneg_right QS (by omega);have hv:aM s=s.bI*s.bI+s.bI+(s.bI*s.az+s.az):=by unfold aM;rw[if_pos hc,Int.mul_add,Int.mul_comm s.az,Int.mul_one]
 have hz:=yI (a:=s.bI) (b:=s.az) h0 h1 (by omega) h3;have e:cA s a b=s.bI*s.bI+s.bI+a*s.az+b+1:=by
  unfold cA cw;rw[if_pos]
  .simp[base,wide]
  .refine⟨hc,by simp,by simp,ha,?_,hb,?_⟩
   .simp[D4];omega
   .simpa[wide]using hb1
 rw[e,hv];omega
theorem KI(s:ab)(a:Int)(t:Nat):rowAt s a (t+1)=rowAt s a t++[cA s a (t:Int)]:=by
 unfold rowAt;rw[jS,gp];rfl
theorem vV(s:ab)(a:Int)(t:Nat):(rowAt s a t).length=t:=by simp[rowAt]
theorem v162_163(n:Int)(s:ab)(a:Int)(h:Cj n s a):VC162_163 n s a (λr=>r=cW n s a):=by
 obtain⟨h0,h1⟩:=h;unfold VC162_163 iF bD lN wI dE fj eM;obtain⟨k,hk⟩:=oF h0;subst hk;simp only[Int.toNat_natCast,oE,aR,bp];refine⟨by omega,λout x=>∃t:Nat,x=t/\t<=k/\out=rowAt s a t++List.replicate (k-t) 0,λ_ x=>(k-x).toNat,⟨0,rfl,by omega,by simp[rowAt]⟩,?_⟩;rintro _ _ ⟨t,rfl,ht,rfl⟩;refine⟨λhx r hr=>?_,λhx=>?_⟩
 .subst hr;have hx:t<k:=by omega
  rw[dj (by omega) (by omega)];have hl:=vV s a t;refine⟨⟨by omega,by simp[hl];omega⟩,⟨t+1,by simp,by omega,?_⟩,by dsimp only;omega⟩;rw[show k-t=(k-(t+1))+1 by omega,List.replicate_succ,F9 _ _ _ _ (by simp[hl]),KI];simp[kD]
 .have:t=k:=by omega
  subst this;unfold VC162_163_J1 cW;simp
theorem YK{s:ab}(h:au s=0)(a:Nat):(wQ s a).length<=1025:=by
 obtain⟨h0,h1,h2,h3⟩:=iQ h;have h1:=vc (rowAt s (a:Int) s.az.toNat);rw[vV]at h1;have h2:s.az.toNat*s.az.toNat<=32*32:=gn (by omega) (by omega);unfold wQ;rw[bc];omega
theorem JU{s:ab}(h:au s=0)(t:Nat):((List.range t).flatMap (wQ s)).length<=1025*t:=by
 induction t with
 |zero=>simp
 |succ t ih=>have:=YK h t;rw[jS,lA,aS];simp only[jI,List.flatMap_nil,fT];omega
theorem Ql(s:ab)(t:Nat):(List.range (t+1)).flatMap (wQ s)=(List.range t).flatMap (wQ s)++wQ s t:=by
 rw[jS,lA];simp
theorem v103(s:ab)(init:Int):VC103 s init (λr=>r=dh s init):=by
 unfold VC103 iF wI dE fj eM;intro r hr;subst hr;simp only[dS,aR,cO,bp,fJ,gq];refine⟨λh=>?_,λh=>?_⟩
 .unfold dh;rw[if_neg (by omega)]
 .obtain⟨⟨hc,hi0⟩,hi1⟩:=h;obtain⟨h0,h1,h2,h3⟩:=iQ hc;intro r hr;subst hr;rw[dj (n:=s.bI+1) (by omega) (by omega)];refine⟨λout x=>∃t:Nat,x=t/\(t:Int)<=s.bI+1/\out=[cA s 0 init]::(List.range t).flatMap (wQ s),λ_ x=>(s.bI+1-x).toNat,⟨0,rfl,by omega,by simp⟩,?_⟩;rintro _ _ ⟨t,rfl,ht,rfl⟩;have hl:=JU hc t;refine⟨λhx=>⟨⟨by omega,by omega⟩,λr hr _=>?_⟩,λhx=>?_⟩
  .subst hr;have hr:=vV s (t:Int) s.az.toNat
   unfold cW;have hm:=vc (rowAt s (t:Int) s.az.toNat);rw[hr]at hm;have h4:s.az.toNat*s.az.toNat<=32*32:=gn (by omega) (by omega);refine⟨by simp only[aS,bc,cN];omega,by unfold oY;omega,λr hr _=>?_⟩;subst hr;unfold iw;rw[dj (by omega) (by omega)];refine⟨by simp only[aS,bc,cN];omega,⟨t+1,by simp,by omega,?_⟩,by dsimp only;omega⟩;rw[Ql];simp[wQ]
  .have:(s.bI+1).toNat=t:=by omega
   unfold VC103_J1 dh;rw[if_pos ⟨hc,by omega,by omega⟩,this]
theorem LJ(s:ab)(m:List Bool)(a:Nat)(t:Nat):((rowAt s a t).filter (λx=>gi m (x-1))).length=(uG s m a t).length:=by
 unfold rowAt uG;rw[pz,pz,da,da];rfl
theorem WB{s:ab}{m:List Bool}(hc:au s=0)(hl:(m.length:Int)=aM s){a:Nat}(ha:(a:Int)<=s.bI):∀x∈rowAt s a s.az.toNat,VO m x:=by
 intro x hx;simp only[rowAt,aq,bM]at hx;obtain⟨b,hb,rfl⟩:=hx;obtain⟨e,e1,e2,e3⟩:=N6 hc (a:=(a:Int)) (by omega) ha (b:=(b:Int)) (by omega) (by omega);exact⟨e1,by omega,by omega⟩
theorem Qm{s:ab}{m:List Bool}(hc:au s=0)(hl:(m.length:Int)=aM s){a:Nat}(ha:(a:Int)<=s.bI):(wQ s a).all (λc=>cX c m)=oneOf s m a:=by
 have hk:=WB hc hl ha;rw[jQ];unfold wQ oneOf;rw[cd,ak,zX hk,tM hk,any_filter,LJ,gJ];omega
theorem JK{s:ab}{m:List Bool}{init:Int}(hc:au s=0)(hl:(m.length:Int)=aM s)(h0:0<=init)(h1:init<s.az)(n:Int):
  qI ⟨n,dh s init⟩ m<0↔on s m 0 init=true/\(List.range (s.bI+1).toNat).all (oneOf s m)=true:=by
 obtain⟨k0,k1,k2,k3⟩:=iQ hc;rw[wu];unfold dh;rw[if_pos ⟨hc,h0,h1⟩,cd,ak];obtain⟨e,e1,e2,e3⟩:=N6 hc (a:=0) (by omega) (by omega) (b:=init) h0 h1;have hh:cX [cA s 0 init] m=on s m 0 init:=by
  rw[zX]
  .simp[on]
  .intro x hx;rw[aY]at hx;subst hx;exact⟨e1,by omega,by omega⟩
 rw[hh,List.all_flatMap];refine and_congr Iff.rfl ?_;rw[aO,aO];refine forall_congr' λa=>?_;refine imp_congr_right λha=>?_;rw[bM]at ha;rw[Qm hc hl (by omega)]
theorem zq{s:ab}{m:List Bool}{a:Int}{t:Nat}{x:Int}:x∈uG s m a t↔0<=x/\x<t/\on s m a x=true:=by
 unfold uG;rw[dx,aq];constructor
 .rintro⟨⟨y,hy,rfl⟩,h⟩;rw[bM]at hy;exact⟨by simp,by simpa using hy,h⟩
 .rintro⟨h0,h1,h⟩;exact⟨⟨x.toNat,by rw[bM];omega,by simp;omega⟩,h⟩
theorem S5{s:ab}{m:List Bool}{a:Nat}(h:oneOf s m a=true):uG s m a s.az.toNat=[zS s m a]:=by
 unfold oneOf at h;rw[gJ]at h;unfold zS
 match htr:uG s m a s.az.toNat,h with
 |[x],_=>rfl
theorem v159(p:Int×Int)(n:Int):VC159 p n (λr=>r=gB p n):=by
 unfold VC159 gB dE;show _=_;rw[jQ];simp only[ak,aR,fJ];constructor
 .rintro⟨⟨h1,h2⟩,h3⟩;split at h1<;>split at h2<;>refine⟨?_,?_,?_,?_,h3⟩<;>omega
 .rintro⟨h1,h2,h3,h4,h5⟩;refine⟨⟨?_,?_⟩,h5⟩<;>split<;>omega
theorem v157(a b:Int)(s:ab):VC157 a b s (λr=>r=jD a b s):=by
 intro r hr;exact hr.symm
theorem AE(s:ab)(p:Int×Int)(n:Nat):tx s p (n+1)=tx s p n++(List.range n).map (qM s p n):=by
 unfold tx;rw[jS,lA];simp
theorem zI(s:ab)(p:Int×Int):∀n:Nat,n<=64->(tx s p n).length<=64*n
 |0,_=>by simp[tx]
 |n+1,h=>by have:=zI s p n (by omega);rw[AE,aS,da,sO];omega
theorem K5{s:ab}(h:s.bI<=64)(p:Int×Int):(iW s p).length<=4096:=by
 unfold iW;split
 .have:=zI s p s.bI.toNat (by omega);omega
 .simp
theorem Hl{s:ab}(h:s.bI<=64):∀l:List (Int×Int),(l.flatMap (iW s)).length<=4096*l.length
 |[]=>by simp
 |p::l=>by have h1:=Hl h l;have h2:=K5 h p;rw[jI,aS,bc];omega
theorem HH{s:ab}{l:List (Int×Int)}{t:Nat}(h:t<l.length):(l.take (t+1)).flatMap (iW s)=(l.take t).flatMap (iW s)++iW s (gi l t):=by
 rw[wD h,lA,dM _ _ h];simp
theorem Cb{α:Type}(f:Nat->α)(n:Nat):(List.range (n+1)).map f=(List.range n).map f++[f n]:=by
 rw[jS,gp];rfl
theorem v101(s:ab)(jW:List (Int×Int))(h:Gp s jW):VC101 s jW (λr=>r=ew s jW):=by
 have hp:jW.length<=1000:=h;unfold VC101 iF bD lN wI dE fj eM;intro _ r hr;subst hr;simp only[fJ,gq];refine⟨λh=>?_,λhc=>?_⟩
 .unfold ew;rw[if_neg h]
 .obtain⟨h0,h1,h2,h3⟩:=iQ hc;simp only[aR,bp];refine⟨λout x=>∃t:Nat,x=t/\t<=jW.length/\out=(jW.take t).flatMap (iW s),λ_ x=>(jW.length-x).toNat,⟨0,rfl,by omega,by simp⟩,?_⟩;rintro _ _ ⟨t,rfl,ht,rfl⟩;have hl:=Hl (s:=s) h1 (jW.take t);rw[bH,ky ht]at hl;refine⟨λhx=>⟨⟨by omega,hx⟩,λr hr=>?_⟩,λhx=>?_⟩
  .subst hr;have hx:t<jW.length:=by omega
   refine⟨λhf=>?_,λhf=>?_⟩
   .unfold VC101_J2 wI eM;rw[dj (by omega) (by omega)];refine⟨⟨t+1,by simp,by omega,?_⟩,by dsimp only;omega⟩;have hf:gB (gi jW t) s.bI=false:=by simpa using hf
    rw[HH hx,iW,if_neg (by rw[hf];decide),fT]
   .have hf:gB (gi jW t) s.bI=true:=by simpa using hf
    refine⟨λout a=>∃u:Nat,a=u/\(u:Int)<=s.bI/\out=(jW.take t).flatMap (iW s)++tx s (gi jW t) u,λ_ a=>(s.bI-a).toNat,⟨0,rfl,by omega,by simp[tx]⟩,?_⟩;rintro _ _ ⟨u,rfl,hu,rfl⟩;have hcl:=zI s (gi jW t) u (by omega);refine⟨λha=>?_,λha=>?_⟩
    .refine⟨λout b=>∃v:Nat,b=v/\v<=u/\out=(jW.take t).flatMap (iW s)++(tx s (gi jW t) u++(List.range v).map (qM s (gi jW t) u)),λ_ b=>(u-b).toNat,⟨0,rfl,by omega,by simp⟩,?_⟩;rintro _ _ ⟨v,rfl,hv,rfl⟩;refine⟨λhb=>?_,λhb=>?_⟩
     .rintro _ rfl _ rfl;rw[dj (n:=(v:Int)+1) (by omega) (by omega)];refine⟨?_,⟨v+1,by simp,by omega,?_⟩,by dsimp only;omega⟩
      .simp only[aS,da,sO,bc,cN];omega
      .rw[Cb];simp[qM,jD,lU]
     .have:v=u:=by omega
      subst this;unfold VC101_J3 wI eM;rw[dj (by omega) (by omega)];refine⟨⟨v+1,by simp,by omega,?_⟩,by dsimp only;omega⟩;rw[AE]
    .have:u=s.bI.toNat:=by omega
     subst this;unfold VC101_J2 wI eM;rw[dj (by omega) (by omega)];refine⟨⟨t+1,by simp,by omega,?_⟩,by dsimp only;omega⟩;rw[HH hx,iW,if_pos hf]
  .have:t=jW.length:=by omega
   subst this;unfold VC101_J1 ew;rw[if_pos hc,gT]
theorem yD(l:List aj)(i t:Nat):mu l i (t+1)=mu l i t++(if cY (gi l (i:Int)) (gi l (t:Int))=true then [((i:Int),(t:Int))]else []):=by
 unfold mu;rw[jS,List.filter_append,gp,List.filter_cons,List.filter_nil];split<;>rfl
theorem Cs(l:List aj)(i t:Nat):(mu l i t).length<=t:=by
 unfold mu;rw[da];refine bP (List.length_filter_le _ _) ?_;simp
theorem Cq(l:List aj)(n:Nat):∀t,((List.range t).flatMap (λi=>mu l i n)).length<=n*t
 |0=>by simp
 |t+1=>by have h1:=Cq l n t;have h2:=Cs l t n;rw[jS,lA,aS,Nat.mul_add];simp only[jI,List.flatMap_nil,fT];omega
theorem v102(l:List aj)(h:gh l):VC102 l (λr=>r=dL l):=by
 have hl:l.length<=5000:=h;have hsq:∀t,t<=l.length->l.length*t<=5000*5000:=λt ht=>gn hl (by omega);unfold VC102 iF bD lN dE fj;intro _;simp only[aR,bp];refine⟨λout x=>∃t:Nat,x=t/\t<=l.length/\out=(List.range t).flatMap (λi=>mu l i l.length),λ_ x=>(l.length-x).toNat,⟨0,rfl,by omega,rfl⟩,?_⟩;rintro _ _ ⟨t,rfl,ht,rfl⟩;have A9:=Cq l l.length t;have hq:=hsq t ht;refine⟨λhx=>⟨⟨by omega,hx⟩,?_⟩,λhx=>?_⟩
 .refine⟨λout y=>∃u:Nat,y=u/\u<=l.length/\out=(List.range t).flatMap (λi=>mu l i l.length)++mu l t u,λ_ y=>(l.length-y).toNat,⟨0,rfl,by omega,by simp[mu]⟩,?_⟩;rintro _ _ ⟨u,rfl,hu,rfl⟩;have hp2:=Cs l t u;refine⟨λhy=>⟨⟨by omega,hy⟩,?_⟩,λhy=>?_⟩
  .rintro _ rfl;refine⟨λha=>⟨?_,?_⟩,λha=>?_⟩
   .simp only[aS,bc,cN];omega
   .unfold VC102_J3 wI eM;rw[dj (by omega) (by omega)];refine⟨⟨u+1,by simp,by omega,?_⟩,by dsimp only;omega⟩;rw[yD,if_pos ha,bV]
   .unfold VC102_J3 wI eM;rw[dj (by omega) (by omega)];refine⟨⟨u+1,by simp,by omega,?_⟩,by dsimp only;omega⟩;rw[yD,if_neg (by rw[ha];decide),fT]
  .have:u=l.length:=by omega
   subst this;unfold VC102_J2 wI eM;rw[dj (by omega) (by omega)];refine⟨⟨t+1,by simp,by omega,?_⟩,by dsimp only;omega⟩;rw[jS,lA];simp
 .have:t=l.length:=by omega
  subst this;rfl
end
section
theorem v150(o:ae)(l:List aj)(h:Ci o l):VC150 o l (λr=>r=bu o l):=by
 unfold VC150 iF lN;refine λ_ _=>⟨h,?_⟩
 rintro _ rfl _ rfl;unfold bu;grind
theorem v165(t:kA)(x:aj)(st:Int):VC165 t x st (λr=>r=lJ t x st):=by
 unfold VC165 iF;intro _;rintro _ rfl;unfold lJ mE oy;grind
theorem v227(k a b:Int)(s:ab):VC227 k a b s (λr=>r=fN k a b s):=by
 unfold VC227;rintro _ rfl;rfl
theorem v108(l:List Int)(hp:AD l):VC108 l (λr=>r=bE l):=by
 unfold VC108 iF;have hp:l.length<=1000000:=hp;intro hs b hb;refine⟨λh=>(hb h).symm,λ_=>⟨by simp only[cN];omega,by simp[bE]⟩⟩
theorem Xf(o:ae)(l:List aj)(s:ab)(i k b:Nat):(ux o l s i k b).length<=2:=by
 unfold ux;split<;>simp
theorem Tw(o:ae)(l:List aj)(s:ab)(i k b:Nat):((List.range b).flatMap (ux o l s i k)).length<=b*2:=by
 have:=wq (Xf o l s i k) (List.range b);grind
theorem abp(o:ae)(l:List aj){s:ab}(h:s.az<=32)(i k:Nat):(Tx o l s i k).length<=64:=by
 have:=Tw o l s i k s.az.toNat
 unfold Tx;omega
theorem Na(o:ae)(l:List aj){s:ab}(h:s.az<=32)(i u:Nat):((List.range u).flatMap (Tx o l s i)).length<=u*64:=by
 have:=wq (abp o l h i) (List.range u);grind
theorem M9(o:ae)(l:List aj){s:ab}(h0:s.bI<=64)(h:s.az<=32)(i:Nat):(yH o l s i).length<=5000:=by
 have:=Na o l h i s.bI.toNat
 unfold yH;grind
theorem Zs(o:ae)(l:List aj)(s:ab)(t u b:Nat)(I3:(List (List Int))->Int->Prop)(μ3:(List (List Int))->Int->Nat)(out:List (List Int))(c:List Int)(hu:u<=1000)
  (hc:c=tC o l s t u b) (hlen:out.length<=1000000) (k:VC104_J5 I3 μ3 out b (out++ux o l s t u b)):VC104_J6 l s t (oS s t) u I3 μ3 out b (eG s t u) (cA s u b) out c:=by
 unfold VC104_J6 iF wI;subst hc;rw[dj (by omega) (by omega)];refine⟨by simp only[bc,cN];omega,λhe=>?_,λhe=>?_⟩
 .rintro _ rfl;refine⟨by simp only[aS,bc,cN];omega,?_⟩;have he:(gi l (t:Int)).End=-1:=by simpa using he
  have e:out++ux o l s t u b=(out++[tC o l s t u b])++[[IntKind.i64.wrap (0-eG s t u),oS s t,IntKind.i64.wrap (0-cA s u b),fN 3 ((u:Int)+1) b s]]:=by unfold ux;rw[if_pos he];simp[lU,fN,cA]
  rw[e]at k;exact k
 .have he:¬(gi l (t:Int)).End=-1:=by simpa using he
  have e:out++ux o l s t u b=out++[tC o l s t u b]:=by unfold ux;rw[if_neg he]
  rw[e]at k;exact k
theorem Zt(o:ae)(l:List aj)(s:ab)(t:Nat)(I1:(List (List Int))->Int->Prop)(μ1:(List (List Int))->Int->Nat)(out Gq:List (List Int))(h0:0<=s.bI)(h1:s.bI<=64)(h2:1<=s.az)(h3:s.az<=32)
  (hlen:Gq.length<=100000) (k:VC104_J2 I1 μ1 out t (Gq++(List.range s.bI.toNat).flatMap (Tx o l s t))):VC104_J3 o l s s I1 μ1 out t (oS s t) Gq:=by
 unfold VC104_J3 iF wI dE fj;refine⟨λq y=>∃u:Nat,y=u/\u<=s.bI.toNat/\q=Gq++(List.range u).flatMap (Tx o l s t),λ_ y=>(s.bI-y).toNat,⟨0,rfl,by omega,by simp⟩,?_⟩;rintro _ _ ⟨u,rfl,hu,rfl⟩;have hA:=Na o l h3 t u;refine⟨λhy=>?_,λhy=>?_⟩
 .have hy:(u:Int)<s.bI:=by simpa using hy
  refine⟨λq z=>∃b:Nat,z=b/\b<=s.az.toNat/\q=Gq++(List.range u).flatMap (Tx o l s t)++(List.range b).flatMap (ux o l s t u),λ_ z=>(s.az-z).toNat,⟨0,rfl,by omega,by simp⟩,?_⟩;rintro _ _ ⟨b,rfl,hb,rfl⟩;have hB:=Tw o l s t u b;have hL:(Gq++(List.range u).flatMap (Tx o l s t)++(List.range b).flatMap (ux o l s t u)).length<=1000000:=by simp only[aS];omega
  refine⟨λhz=>?_,λhz=>?_⟩
  .have hz:(b:Int)<s.az:=by simpa using hz
   rintro _ rfl _ rfl _ rfl;have fin:VC104_J5 (λq z=>∃b:Nat,z=b/\b<=s.az.toNat/\q=Gq++(List.range u).flatMap (Tx o l s t)++(List.range b).flatMap (ux o l s t u)) (λ_ z=>(s.az-z).toNat)
    (Gq++(List.range u).flatMap (Tx o l s t)++(List.range b).flatMap (ux o l s t u)) b (Gq++(List.range u).flatMap (Tx o l s t)++(List.range b).flatMap (ux o l s t u)++ux o l s t u b):=by
    unfold VC104_J5 wI eM;rw[dj (by omega) (by omega)];refine⟨⟨b+1,by simp,by omega,?_⟩,by dsimp only;omega⟩;rw[qj];simp only[bV]
   refine⟨λhm=>?_,λhm=>?_⟩
   .rintro _ rfl;refine⟨by simp,?_⟩;refine Zs o l s t u b _ _ _ _ (by omega) ?_ hL fin;have hm:(mE o (gi l (t:Int)) b).2=true:=hm;unfold tC;rw[if_pos hm,dj (n:=(u:Int)+1) (by omega) (by omega)];rfl
   .refine Zs o l s t u b _ _ _ _ (by omega) ?_ hL fin;have hm:(mE o (gi l (t:Int)) b).2=false:=hm;unfold tC;rw[if_neg (by rw[hm];decide)];rfl
  .have:b=s.az.toNat:=by simp at hz;omega
   subst this;unfold VC104_J4 wI eM;rw[dj (by omega) (by omega)];refine⟨⟨u+1,by simp,by omega,?_⟩,by dsimp only;omega⟩;rw[qj,bV];rfl
 .have:u=s.bI.toNat:=by simp at hy;omega
  subst this;exact k
theorem v104(o:ae)(l:List aj)(h:EF o l):VC104 o l (λr=>r=eA o l):=by
 unfold VC104 iF bD lN dE fj;obtain⟨ho,hl⟩:=h;refine λ_ _=>⟨ho,?_⟩
 rintro _ rfl _ rfl;refine⟨λhc=>?_,λhc=>?_⟩
 .unfold eA;rw[if_neg (by simpa using hc)]
 .have hc:au (bu o l)=0:=by simpa using hc
  obtain⟨c0,c1,c2,c3⟩:=iQ hc;have KO:=M9 o l c1 c3;refine⟨λout x=>∃t:Nat,x=t/\t<=l.length/\out=(List.range t).flatMap (yH o l (bu o l)),λ_ x=>(l.length-x).toNat,⟨0,rfl,by omega,rfl⟩,?_⟩;rintro _ _ ⟨t,rfl,ht,rfl⟩;have hA:=wq KO (List.range t);rw[sO]at hA;refine⟨λhx=>?_,λhx=>?_⟩
  .have hx:(t:Int)<l.length:=by simpa using hx
   refine⟨⟨by omega,hx⟩,?_⟩;rintro _ rfl;have fin:∀q,q=yH o l (bu o l) t->VC104_J2 (λout x=>∃t:Nat,x=t/\t<=l.length/\out=(List.range t).flatMap (yH o l (bu o l))) (λ_ x=>(l.length-x).toNat)
    ((List.range t).flatMap (yH o l (bu o l))) t ((List.range t).flatMap (yH o l (bu o l))++q):=by
    rintro q rfl;unfold VC104_J2 wI eM;rw[dj (by omega) (by omega)];exact⟨⟨t+1,by simp,by omega,by rw[qj]⟩,by dsimp only;omega⟩
   refine⟨λhe=>⟨?_,?_⟩,λhe=>?_⟩
   .simp only[bc,cN];omega
   .have he:¬(gi l (t:Int)).End=-1:=by simpa using he
    refine Zt o l _ t _ _ _ _ c0 c1 c2 c3 (by simp only[aS,bc,cN];omega) ?_;rw[bV];refine fin _ ?_;unfold yH;rw[if_neg he];rfl
   .have he:(gi l (t:Int)).End=-1:=by simpa using he
    refine Zt o l _ t _ _ _ _ c0 c1 c2 c3 (by omega) ?_;refine fin _ ?_;unfold yH;rw[if_pos he];rfl
  .have:t=l.length:=by simp at hx;omega
   subst this;unfold VC104_J1 eA;rw[if_pos hc]
theorem v99(parts:List (List (List Int)))(h:SI parts):VC99 parts (λr=>r=nW parts):=by
 unfold VC99 iF bD lN wI dE fj eM;obtain⟨h0,h1,h2⟩:=h;intro _;have tk:∀{α:Type} [Inhabited α] (L:List (List α)) (t:Nat),t<L.length->(L.take (t+1)).flatten=(L.take t).flatten++gi L (t:Int):=by intro α _ L t ht;have:=fW (l:=L) (i:=(t:Int)) (by omega) (by omega);grind
 have le:∀t,(parts.take t).flatten.length<=parts.flatten.length:=by grind[List.flatten_append,List.take_append_drop,List.length_append]
 refine⟨λout x=>∃t:Nat,x=t/\t<=parts.length/\out=(parts.take t).flatten,λ_ x=>(parts.length-x).toNat,⟨0,rfl,by omega,rfl⟩,?_⟩;rintro _ _ ⟨t,rfl,ht,rfl⟩;refine⟨λhx=>?_,λhx=>?_⟩
 .have hx:(t:Int)<parts.length:=by simpa using hx
  refine⟨⟨by omega,hx⟩,?_⟩;have hm:gi parts (t:Int)∈parts:=dq (by omega) hx;have hT:=le (t+1);rw[tk parts t (by omega),aS]at hT
  try intro _
  refine⟨λq y=>∃u:Nat,y=u/\u<=(gi parts (t:Int)).length/\q=(parts.take t).flatten++(gi parts (t:Int)).take u,λ_ y=>((gi parts (t:Int)).length-y).toNat,⟨0,rfl,by omega,by simp⟩,?_⟩;rintro _ _ ⟨u,rfl,hu,rfl⟩;refine⟨λhy=>?_,λhy=>?_⟩
  .have hy:(u:Int)<(gi parts (t:Int)).length:=by simpa using hy
   refine⟨⟨by omega,hy⟩,?_⟩;intro _;refine⟨h2 _ hm _ (dq (by omega) hy),?_⟩;rintro _ rfl
   try intro _
   rw[dj (by omega) (by omega)];refine⟨by simp only[aS,bH,bc,cN];omega,⟨u+1,by simp,by omega,?_⟩,by dsimp only;omega⟩;have:=fW (l:=gi parts (t:Int)) (i:=(u:Int)) (by omega) hy;rw[show((u:Int)+1).toNat=u+1 by omega,show((u:Int)).toNat=u by omega]at this;rw[this,bV];rfl
  .have:u=(gi parts (t:Int)).length:=by simp at hy;omega
   subst this;unfold VC99_J2 wI eM;rw[dj (by omega) (by omega)];refine⟨⟨t+1,by simp,by omega,?_⟩,by dsimp only;omega⟩;rw[tk parts t (by omega),gT]
 .have:t=parts.length:=by simp at hx;omega
  subst this;unfold VC99_J1 nW
  rw[gT]
theorem Ms:∀(a b:List Int),a.Nodup->(∀x∈a,x∈b)->a.length<=b.length
 |[],_,_,_=>mb _
 |x::a,b,hd,hs=>by
  have hd':=gS.1 hd;have:=Ms a (b.erase x) hd'.2 (λy hy=>by
   have hne:y≠x:=λe=>hd'.1 (e▸hy);exact(List.mem_erase_of_ne hne).2 (hs y (by simp[hy])))
  grind
theorem oX(n:Nat):((List.range n).map Int.ofNat).Nodup:=by
 grind[List.nodup_range,Int.ofNat.inj]
theorem GG:∀(l:List Int)(c:List Int),c∈sf l->c.length=2
 |[],c,h=>by cases h
 |x::r,c,h=>by
  rcases aV.1 h with h|h
  .obtain⟨y,_,rfl⟩:=aq.1 h;rfl
  .exact GG r c h
theorem ZC{s:ab}{i:Int}(hc:au s=0)(h0:0<=i)(h1:i<s.bI):
  oS s i=s.bI*s.bI+i+1/\1<=oS s i/\oS s i<=s.bI*s.bI+s.bI/\s.bI*s.bI+s.bI<=aM s/\aM s<=10000:=by
 obtain⟨c0,c1,c2,c3⟩:=iQ hc;have hm:=yI c0 c1 c0 c1;have hz:=yI (a:=s.bI) (b:=s.az) c0 c1 (by omega) c3;have hv:aM s=s.bI*s.bI+s.bI+(s.bI*s.az+s.az):=by unfold aM;rw[if_pos hc,Int.mul_add,Int.mul_comm s.az,Int.mul_one]
 have e:oS s i=s.bI*s.bI+i+1:=by
  unfold oS cw;rw[if_pos]
  .simp[base,wide]
  .refine⟨hc,by simp,by simp,h0,?_,by simp,?_⟩
   .simpa[D4]using h1
   .simp[wide]
 omega
theorem O4{s:ab}{m:List Bool}(h:(bz s m).2=true):lu s m:=by
 unfold bz at h;grind
theorem vZ{s:ab}{m:List Bool}(h:(bz s m).2=true):(bz s m).1.length=s.bI.toNat:=by
 have hm:=O4 h;unfold bz;grind
theorem WC{s:ab}{m:List Bool}(h:(iI s m).2=true):(iI s m).1.length=(s.bI+1).toNat:=by
 unfold iI at h ⊢; grind
def QI(s:ab)(m:List Bool)(i:Int):Bool:=gi m (oS s i-1)
def wJ(m:List Bool)(c:List Int):Bool:=cX c m
structure Cx (o:ae) (l:List aj) (s:ab) (m:List Bool):Prop where
 hc:au s=0
 hl:(m.length:Int)=aM s
 hn:s.bI=l.length
 hS:s.az=o.az
 ho:(aJ o).2=0
section
variable{o:ae}{l:List aj}{s:ab}{m:List Bool}
theorem Cx.place(C:Cx o l s m){a k:Int}(ha:0<=a)(QS:a<l.length)(hk:0<=k)(Ed:k<l.length):VO m (eG s a k):=by
 have:=yC C.hc ha (by rw[C.hn];exact QS) hk (by rw[C.hn];exact Ed);have:=C.hl;exact⟨by omega,by omega,by omega⟩
theorem Cx.inv(C:Cx o l s m){i:Int}(h0:0<=i)(h1:i<l.length):VO m (oS s i):=by
 have:=ZC C.hc h0 (by rw[C.hn];exact h1);have:=C.hl;exact⟨by omega,by omega,by omega⟩
theorem Cx.state(C:Cx o l s m){a b:Int}(ha:0<=a)(QS:a<=l.length)(hb:0<=b)(hb1:b<o.az):VO m (cA s a b):=by
 have:=N6 C.hc ha (by rw[C.hn];exact QS) hb (by rw[C.hS];exact hb1);have:=C.hl;exact⟨by omega,by omega,by omega⟩
theorem lp{v:Int}(h:VO m v):yN m v=gi m (v-1):=Ng h.1 h.2.1 h.2.2
theorem ln{v:Int}(h:VO m v):yN m (lU v)=!gi m (v-1):=yM h.1 h.2.1 h.2.2
theorem Lm(ho:(aJ o).2=0){x:aj}{b:Int}(h:(mE o x b).2=true):(bN o b x.Kind).2.2=true/\(x.End≠-1->x.Result=(bN o b x.Kind).2.1)/\(mE o x b).1=(bN o b x.Kind).1/\0<=(mE o x b).1/\(mE o x b).1<o.az:=by
 unfold mE at h ⊢; split at h
 .cases h
 .rename_i hn;rw[if_neg hn];have h1:(bN o b x.Kind).2.2=true:=by
   cases hq:(bN o b x.Kind).2.2 with
   |true=>rfl
   |false=>exact absurd (.inl hq) hn
  refine⟨h1,λhe=>fC λhr=>hn (.inr ⟨he,hr⟩),rfl,Xh ho h1⟩
theorem CH(C:Cx o l s m){i k b:Nat}(hi:i<l.length)(hk:k<l.length)(hb:(b:Int)<o.az):
  wJ m (tC o l s i k b)=(!(wG s m i k)||(!(QI s m i)||(!(on s m k b)||((mE o (gi l (i:Int)) b).2&&on s m ((k:Int)+1) (mE o (gi l (i:Int)) b).1)))):=by
 have h1:=ln (C.place (a:=(i:Int)) (k:=(k:Int)) (by omega) (by omega) (by omega) (by omega));have h2:=ln (C.inv (i:=(i:Int)) (by omega) (by omega));have h3:=ln (C.state (a:=(k:Int)) (b:=(b:Int)) (by omega) (by omega) (by omega) hb);unfold wJ cX tC GF;cases hm:(mE o (gi l (i:Int)) b).2 with
 |false=>rw[if_neg (by decide)];simp only[fB,kU,h1,h2,h3,jO,Bool.false_and];rfl
 |true=>rw[if_pos rfl];obtain⟨_,_,_,n0,n1⟩:=Lm C.ho hm;have h4:=lp (C.state (a:=(k:Int)+1) (b:=(mE o (gi l (i:Int)) b).1) (by omega) (by omega) n0 n1);simp only[jK,gU,fB,kU,h1,h2,h3,h4,jO,jg];rfl
theorem BS(C:Cx o l s m){i k b:Nat}(hi:i<l.length)(hk:k<l.length)(hb:(b:Int)<o.az):
  wJ m [lU (eG s i k),oS s i,lU (cA s k b),cA s ((k:Int)+1) b]=(!(wG s m i k)||(QI s m i||(!(on s m k b)||on s m ((k:Int)+1) b))):=by
 have h1:=ln (C.place (a:=(i:Int)) (k:=(k:Int)) (by omega) (by omega) (by omega) (by omega));have h2:=lp (C.inv (i:=(i:Int)) (by omega) (by omega));have h3:=ln (C.state (a:=(k:Int)) (b:=(b:Int)) (by omega) (by omega) (by omega) hb);have h4:=lp (C.state (a:=(k:Int)+1) (b:=(b:Int)) (by omega) (by omega) (by omega) hb);unfold wJ cX;simp only[fB,kU,h1,h2,h3,h4,jO];rfl
def Mv(o:ae)(l:List aj)(s:ab)(m:List Bool):Prop:=∀i:Nat,i<l.length->((gi l (i:Int)).End≠-1->QI s m i=true)/\∀k:Nat,k<l.length->∀b:Nat,(b:Int)<o.az->wG s m i k=true->on s m k b=true ->
 (QI s m i=true->(mE o (gi l (i:Int)) b).2=true/\on s m ((k:Int)+1) (mE o (gi l (i:Int)) b).1=true)/\(QI s m i=false->(gi l (i:Int)).End=-1->on s m ((k:Int)+1) b=true)
theorem Tv(C:Cx o l s m):((List.range l.length).flatMap (yH o l s)).all (wJ m)=true↔Mv o l s m:=by
 have e1:s.bI.toNat=l.length:=by have:=C.hn;omega
 have e2:∀b:Nat,b<s.az.toNat↔(b:Int)<o.az:=by have:=C.hS;intro b;omega
 constructor
 .intro h i hi;have h1:∀c∈yH o l s i,wJ m c=true:=λc hc=>aO.1 h c (cf.2 ⟨i,bM.2 hi,hc⟩);unfold yH at h1;refine⟨λhe=>?_,λk hk b hb hp ho=>?_⟩
  .rw[if_neg he]at h1;have:=h1 [oS s i] (by simp);unfold wJ cX at this;simp only[fB,kU,lp (C.inv (i:=(i:Int)) (by omega) (by omega)),jO]at this;exact this
  .have h2:∀c∈ux o l s i k b,wJ m c=true:=λc hc=>h1 c (aV.2 (.inr (cf.2 ⟨k,bM.2 (by omega),cf.2 ⟨b,bM.2 ((e2 b).2 hb),hc⟩⟩)));unfold ux at h2;refine⟨λhin=>?_,λhin he=>?_⟩
   .have:=h2 _ (aI ..);rw[CH C hi hk hb,hp,hin,ho]at this;simpa using this
   .rw[if_pos he]at h2;have:=h2 _ (aw _ (aI ..));rw[BS C hi hk hb,hp,hin,ho]at this;simpa using this
 .intro h;refine aO.2 λc hc=>?_;obtain⟨i,hi,hc⟩:=cf.1 hc;have hi:=bM.1 hi;obtain⟨h1,h2⟩:=h i hi;rcases aV.1 hc with hc|hc
  .split at hc
   .cases hc
   .rename_i he;rcases aE.1 hc with rfl|hc
    .unfold wJ cX;simp only[fB,kU,lp (C.inv (i:=(i:Int)) (by omega) (by omega)),jO];exact h1 he
    .cases hc
  .obtain⟨k,hk,hc⟩:=cf.1 hc;obtain⟨b,hb,hc⟩:=cf.1 hc;have hk:k<l.length:=by have:=bM.1 hk;omega
   have hb:=(e2 b).1 (bM.1 hb);have h3:=h2 k hk b hb;rcases aE.1 hc with rfl|hc
   .rw[CH C hi hk hb];cases hp:wG s m i k with
    |false=>rfl
    |true=>cases hin:QI s m i with
     |false=>rfl
     |true=>cases ho:on s m k b with
      |false=>rfl
      |true=>grind
   .split at hc
    .rename_i he;rcases aE.1 hc with rfl|hc
     .rw[BS C hi hk hb];cases hp:wG s m i k with
      |false=>rfl
      |true=>cases hin:QI s m i with
       |true=>rfl
       |false=>cases ho:on s m k b with
        |false=>rfl
        |true=>rw[(h3 hp ho).2 hin he];rfl
     .cases hc
    .cases hc
theorem LF(hM:lu s m){k:Nat}(hk:k<s.bI.toNat):gi (bz s m).1 (k:Int)=VK s m s.bI.toNat k:=by
 unfold bz;grind[Q5]
theorem Bp(hM:lu s m){k:Nat}(hk:k<s.bI.toNat){a:Int}(ha:0<=a)(QS:a<s.bI.toNat):wG s m a k=true↔gi (bz s m).1 (k:Int)=a:=by
 rw[LF hM hk];have h1:=CO hM hk;have h2:=Mg h1;constructor
 .intro h;have hs:=Gc h1;have:a∈sS s.bI.toNat (λa=>wG s m a (k:Int)):=nP.2 ⟨ha,QS,h⟩;rw[hs]at this;exact(aY.1 this).symm
 grind
theorem SW(hM:lu s m){k:Nat}(hk:k<s.bI.toNat):0<=gi (bz s m).1 (k:Int)/\gi (bz s m).1 (k:Int)<s.bI.toNat:=by
 rw[LF hM hk];have:=Mg (CO hM hk);omega
theorem wg(hM:lu s m):(bz s m).2=true:=by unfold bz;rw[if_pos hM]
theorem MT(hM:lu s m){j k:Nat}(hj:j<s.bI.toNat)(hk:k<s.bI.toNat)(h:gi (bz s m).1 (j:Int)=gi (bz s m).1 (k:Int)):j=k:=by
 obtain⟨a0,a1⟩:=SW hM hk;have pj:=(Bp hM hj a0 a1).2 h;have pk:=(Bp hM hk a0 a1).2 rfl;have hr:=Iu hM (a:=(gi (bz s m).1 (k:Int)).toNat) (by omega);have hs:=Gc hr;have mj:(j:Int)∈sS s.bI.toNat (wG s m (gi (bz s m).1 (k:Int))):=nP.2 ⟨by omega,by omega,pj⟩;have mk:(k:Int)∈sS s.bI.toNat (wG s m (gi (bz s m).1 (k:Int))):=nP.2 ⟨by omega,by omega,pk⟩;grind
theorem Th{L:List Int}(h:∀j k:Nat,j<L.length->k<L.length->gi L (j:Int)=gi L (k:Int)->j=k):L.Nodup:=by
 grind[List.pairwise_iff_getElem,dM]
theorem O5(hM:lu s m):(bz s m).1.Nodup:=by
 grind[vZ,wg,Th,MT]
theorem WZ(hM:lu s m):∀x∈(bz s m).1,0<=x/\x<s.bI.toNat:=by
 intro x hx;obtain⟨k,hk,rfl⟩:=nO hx;have hl:=vZ (wg hM);have:=SW hM (k:=k) (by omega);grind[dM]
def DL(s:ab)(m:List Bool):Prop:=(List.range (s.bI+1).toNat).all (oneOf s m)=true
theorem R7(hc:au s=0)(hl:(m.length:Int)=aM s)(hR:DL s m):iI s m=((List.range (s.bI+1).toNat).map (zS s m),true):=by
 unfold iI;rw[if_pos ⟨hc,hl,hR⟩]
theorem UI(hc:au s=0)(hl:(m.length:Int)=aM s)(hR:DL s m){a:Nat}(ha:a<(s.bI+1).toNat):gi (iI s m).1 (a:Int)=zS s m a:=by
 grind[R7,dM]
theorem Gg(hc:au s=0)(hl:(m.length:Int)=aM s)(hR:DL s m){a:Nat}(ha:a<(s.bI+1).toNat){b:Int}(hb:0<=b)(hb1:b<s.az.toNat):on s m a b=true↔gi (iI s m).1 (a:Int)=b:=by
 have h1:=S5 (aO.1 hR a (bM.2 ha));rw[UI hc hl hR ha];have PI:b∈uG s m a s.az.toNat↔on s m a b=true:=⟨λh=>(zq.1 h).2.2,λh=>zq.2 ⟨hb,hb1,h⟩⟩
 grind
theorem GR{L:List Int}(hd:L.Nodup){k:Nat}(hk:k<L.length):idx L (gi L (k:Int))=k:=by
 refine Ua (by omega) (by omega) rfl (λj hj hj2 e=>?_);have xH:j.toNat<L.length:=by omega
 grind[dM,List.pairwise_iff_getElem]
theorem JX{L:List Int}{x:Int}(h:x∈L):∃k:Nat,k<L.length/\gi L (k:Int)=x:=by
 grind[List.getElem_of_mem,dM]
structure Gd (o:ae) (l:List aj) (order row:List Int) (inn:Int->Bool):Prop where
 len:order.length=l.length
 aeG:row.length=l.length+1
 nd:order.Nodup
 rng:∀x∈order,0<=x/\x<l.length
 init:gi row 0=o.eZ
 st:∀k:Nat,k<=l.length->0<=gi row (k:Int)/\gi row (k:Int)<o.az
 time:∀p∈dL l,wB order p=false
 ended:∀i:Nat,i<l.length->(gi l (i:Int)).End≠-1->inn i=true
 mv:∀k:Nat,k<l.length->inn (gi order (k:Int))=true->(mE o (gi l (gi order (k:Int))) (gi row (k:Int))).2=true/\gi row ((k:Int)+1)=(mE o (gi l (gi order (k:Int))) (gi row (k:Int))).1
 stay:∀k:Nat,k<l.length->inn (gi order (k:Int))=false->gi row ((k:Int)+1)=gi row (k:Int)
theorem EZ{p:Int×Int}:p∈dL l↔∃i j:Nat,i<l.length/\j<l.length/\p=((i:Int),(j:Int))/\cY (gi l (i:Int)) (gi l (j:Int))=true:=by
 constructor
 .intro h;obtain⟨i,hi,h⟩:=cf.1 h;obtain⟨j,hj,rfl⟩:=aq.1 h;obtain⟨hj,ha⟩:=dx.1 hj;exact⟨i,j,bM.1 hi,bM.1 hj,rfl,ha⟩
 .rintro⟨i,j,hi,hj,rfl,ha⟩;exact cf.2 ⟨i,bM.2 hi,aq.2 ⟨j,dx.2 ⟨bM.2 hj,ha⟩,rfl⟩⟩
theorem Vm{L:List Int}(hd:L.Nodup){j k:Nat}(hj:j<L.length)(hk:k<L.length):wB L (gi L (j:Int),gi L (k:Int))=decide (k<j):=by
 unfold wB;grind[GR]
theorem WU(C:Cx o l s m)(hM:lu s m){p:Int×Int}(h0:0<=p.1)(h1:p.1<l.length)(h2:0<=p.2)(h3:p.2<l.length):(iW s p).all (wJ m)=true↔wB (bz s m).1 p=false:=by
 have hn:=C.hn;have hd:=O5 hM;have hL:=vZ (wg hM);have hA:=WZ hM;obtain⟨j,hj,ej⟩:=JX (tA hd (λx hx=>hA x hx) hL h0 (by omega));obtain⟨k,hk,ek⟩:=JX (tA hd (λx hx=>hA x hx) hL h2 (by omega));have eb:=Vm hd hj hk;rw[ej,ek]at eb;rw[eb];have hp:∀(x:Int)(i:Nat),0<=x->x<l.length->i<s.bI.toNat->(wG s m x i=true↔gi (bz s m).1 (i:Int)=x):=λx i hx hx1 hi=>Bp hM hi hx (by omega);have inj:∀a b:Nat,a<s.bI.toNat->b<s.bI.toNat->gi (bz s m).1 (a:Int)=gi (bz s m).1 (b:Int)->a=b:=λa b ha hb=>MT hM ha hb;unfold iW;by_cases ht:gB p s.bI=true
 .rw[if_pos ht];have row:∀a b:Nat,a<s.bI.toNat->b<s.bI.toNat->wJ m (qM s p a b)=(!(wG s m p.1 a)||!(wG s m p.2 b)):=by intro a b ha hb;unfold wJ cX qM;simp only[fB,kU,ln (C.place (a:=p.1) (k:=(a:Int)) h0 h1 (by omega) (by omega)),ln (C.place (a:=p.2) (k:=(b:Int)) h2 h3 (by omega) (by omega)),jO];rfl
  constructor
  .intro h;refine kY λhkj=>?_;have:=aO.1 h (qM s p j k) (cf.2 ⟨j,bM.2 (by omega),aq.2 ⟨k,bM.2 hkj,rfl⟩⟩);rw[row j k (by omega) (by omega),(hp p.1 j h0 h1 (by omega)).2 ej,(hp p.2 k h2 h3 (by omega)).2 ek]at this;cases this
  .intro h;refine aO.2 λc hc=>?_;obtain⟨a,ha,hc⟩:=cf.1 hc;obtain⟨b,hb,rfl⟩:=aq.1 hc;have ha:=bM.1 ha;have hb:=bM.1 hb;rw[row a b ha (by omega)];cases q1:wG s m p.1 a with
   |false=>rfl
   |true=>cases q2:wG s m p.2 b with
    |false=>rfl
    |true=>grind
 .rw[if_neg ht];have e:p.1=p.2:=by refine fC λhne=>ht ?_;unfold gB;grind
  have:=inj j k (by omega) (by omega) (by rw[ej,ek,e]);subst this;simp
theorem Qu:(FG o l s).all (wJ m)=true↔(di s).all (wJ m)=true/\(ew s (dL l)).all (wJ m)=true/\(dh s o.eZ).all (wJ m)=true/\(eA o l).all (wJ m)=true:=by
 unfold FG;grind
theorem KW(C:Cx o l s m):(di s).all (wJ m)=true↔lu s m:=by
 rw[←LX C.hc C.hl 0,wu];rfl
theorem GP(C:Cx o l s m):0<=o.eZ/\o.eZ<s.az:=by
 have:=Ll C.ho;have:=C.hS;omega
theorem KA(C:Cx o l s m):(dh s o.eZ).all (wJ m)=true↔on s m 0 o.eZ=true/\DL s m:=by
 have:=JK C.hc C.hl (GP C).1 (GP C).2 0;rw[wu]at this;exact this
theorem Om(C:Cx o l s m)(hM:lu s m):(ew s (dL l)).all (wJ m)=true↔∀p∈dL l,wB (bz s m).1 p=false:=by
 unfold ew;rw[if_pos C.hc];have key:∀p∈dL l,((iW s p).all (wJ m)=true↔wB (bz s m).1 p=false):=by intro p hp;obtain⟨i,j,hi,hj,rfl,_⟩:=EZ.1 hp;grind[WU,only]
 grind
theorem Pd(C:Cx o l s m)(hz:bu o l=s):(eA o l).all (wJ m)=true↔Mv o l s m:=by
 unfold eA;rw[hz,if_pos C.hc];exact Tv C
theorem UG(C:Cx o l s m)(hz:bu o l=s)(hM:lu s m)(hR:DL s m)(G:Gd o l (bz s m).1 (iI s m).1 (QI s m)):(FG o l s).all (wJ m)=true:=by
 have hn:=C.hn;have hS:=C.hS;refine Qu.2 ⟨(KW C).2 hM,(Om C hM).2 G.time,(KA C).2 ⟨?_,hR⟩,(Pd C hz).2 λi hi=>⟨G.ended i hi,λk hk b hb hp ho=>?_⟩⟩
 .have:=GP C;exact(Gg C.hc C.hl hR (a:=0) (by omega) this.1 (by omega)).2 G.init
 .have ei:=(Bp hM (k:=k) (by omega) (a:=(i:Int)) (by omega) (by omega)).1 hp;have eb:=(Gg C.hc C.hl hR (a:=k) (by omega) (b:=(b:Int)) (by omega) (by omega)).1 ho;have g1:=G.mv k hk;have g2:=G.stay k hk;rw[ei,eb]at g1;rw[ei,eb]at g2;refine⟨λhin=>?_,λhin _=>?_⟩
  .obtain⟨h1,h2⟩:=g1 hin;obtain⟨_,_,_,n0,n1⟩:=Lm C.ho h1;exact⟨h1,(Gg C.hc C.hl hR (a:=k+1) (by omega) n0 (by omega)).2 h2⟩
  .exact(Gg C.hc C.hl hR (a:=k+1) (by omega) (by omega) (by omega)).2 (g2 hin)
end
section
variable{o:ae}{l:List aj}{s:ab}{m:List Bool}{order row:List Int}{inn:Int->Bool}
theorem wj{α:Type}[Inhabited α](x:α)(r:List α):gi (x::r) 0=x:=by
 have:=dM (x::r) 0 (by simp);exact this
theorem Bw{α:Type}[Inhabited α](x:α)(r:List α){k:Nat}(h:k<r.length):gi (x::r) ((k:Int)+1)=gi r (k:Int):=by
 have:=dM (x::r) (k+1) (by simp;omega)
 grind[dM]
def Qa(o:ae)(l:List aj)(inn:Int->Bool):List Int->List Int->List aC
 |i::r,b::q=>(if inn i=true then [⟨i,(bN o b (gi l i).Kind).2.1⟩]else [])++Qa o l inn r q
 |_,_=>[]
theorem Qx{a b:aj}(h:cY a b=true):a.End≠-1:=by
 unfold cY at h;grind
end
section
variable{o:ae}{l:List aj}
def HV(l:List aj)(p:List aC):List Int:=((List.range l.length).map Int.ofNat).filter λx=>!decide (x∈opers p)
def wH(l:List aj)(p:List aC):List Int:=opers p++HV l p
def vm(p:List aC)(x:Int):Bool:=decide (x∈opers p)
def Ay(o:ae)(l:List aj)(inn:Int->Bool):List Int->Int->List Int
 |[],st=>[st]
 |i::r,st=>st::Ay o l inn r (if inn i=true then(mE o (gi l i) st).1 else st)
theorem vS(o:ae)(l:List aj)(inn:Int->Bool):∀(r:List Int)(st:Int),(Ay o l inn r st).length=r.length+1
 |[],st=>rfl
 |i::r,st=>by simp[Ay,vS o l inn r]
theorem BU(o:ae)(l:List aj)(inn:Int->Bool)(r:List Int)(st:Int):gi (Ay o l inn r st) 0=st:=by
 cases r with
 |nil=>exact wj _ _
 |cons=>exact wj _ _
theorem BV(o:ae)(l:List aj)(inn:Int->Bool):∀(r:List Int)(st:Int)(k:Nat),k<r.length ->
  gi (Ay o l inn r st) ((k:Int)+1)=if inn (gi r (k:Int))=true then(mE o (gi l (gi r (k:Int))) (gi (Ay o l inn r st) (k:Int))).1 else gi (Ay o l inn r st) (k:Int)
 |[],st,k,h=>by simp at h
 |i::r,st,0,h=>by have e0:gi (i::r) ((0:Nat):Int)=i:=wj i r;have e2:gi (Ay o l inn (i::r) st) (((0:Nat):Int)+1)=gi (Ay o l inn r (if inn i=true then(mE o (gi l i) st).1 else st)) ((0:Nat):Int):=Bw _ _ (by rw[vS];omega);grind[BU]
 |i::r,st,k+1,h=>by
  have hk:k<r.length:=by simpa using h
  exact BV o l inn r _ k hk
theorem Rw(ho:(aJ o).2=0){prev:List Int}{st:Int}{p:aC}(h0:0<=st)(h1:st<o.az)(h:(cI o l prev st p).2=0):
  0<=p.Oper/\p.Oper<l.length/\p.Oper∉prev/\(mE o (gi l p.Oper) st).2=true/\(cI o l prev st p).1=(mE o (gi l p.Oper) st).1/\p.Result=(bN o st (gi l p.Oper).Kind).2.1:=by
 unfold cI at h ⊢; split at h
 .cases h
 .rename_i hr;rw[if_neg hr];split at h
  .cases h
  .rename_i hm;rw[if_neg hm];unfold yg at h ⊢; split at h
   .rename_i ht;exact absurd h ht
   .rename_i ht;rw[if_neg ht];have ht:mh o l st p=0:=fC ht;unfold mh at ht;split at ht
    .cases ht
    .rename_i hq;unfold fm at ht hq ⊢; rw[if_neg (by omega)]at ht hq ⊢; split at ht
     .cases ht
     .rename_i hn;rw[if_neg hn]at hq ⊢; have m2:(bN o st (gi l p.Oper).Kind).2.1=p.Result:=fC λh=>hn (.inr h);have hM:mE o (gi l p.Oper) st=((bN o st (gi l p.Oper).Kind).1,true):=by unfold mE;grind
      rw[hM];exact⟨by omega,by omega,hm,rfl,rfl,m2.symm⟩
theorem rO(ho:(aJ o).2=0)(inn:Int->Bool)(A:List Int):∀(p:List aC)(prev:List Int)(st:Int),0<=st->st<o.az->(∀x∈opers p,inn x=true)->(∀x∈A,inn x=false)->(fY o l prev st p).2.2=0 ->
  Qa o l inn (opers p++A) (Ay o l inn (opers p++A) st)=p/\(∀k:Nat,k<p.length->(mE o (gi l (gi (opers p++A) (k:Int))) (gi (Ay o l inn (opers p++A) st) (k:Int))).2=true) /\
  ∀k:Nat,k<=(opers p++A).length->0<=gi (Ay o l inn (opers p++A) st) (k:Int)/\gi (Ay o l inn (opers p++A) st) (k:Int)<o.az
 |[],prev,st,h0,h1,_,hA,_=>by
  have key:∀(A:List Int),(∀x∈A,inn x=false)->Qa o l inn A (Ay o l inn A st)=[]/\∀k:Nat,k<=A.length->gi (Ay o l inn A st) (k:Int)=st:=by
   intro A
   induction A with
   |nil=>intro _;refine⟨rfl,λk hk=>?_⟩;grind[BU]
   |cons i r ih =>
    intro hA;have hi:=hA i (by simp);have ih:=ih λx hx=>hA x (by simp[hx]);have e:Ay o l inn (i::r) st=st::Ay o l inn r st:=by simp[Ay,hi]
    rw[e];refine⟨by rw[Qa,if_neg (by rw[hi];decide),ih.1];rfl,λk hk=>?_⟩;cases k with
    |zero=>exact wj _ _
    |succ k=>grind[Bw,vS]
  have:=key A hA;refine⟨this.1,λk hk=>by simp at hk,λk hk=>?_⟩;have e:=this.2 k hk;have e:gi (Ay o l inn (opers []++A) st) (k:Int)=st:=e;omega
 |p::ps,prev,st,h0,h1,hp,hA,hr=>by
  unfold fY at hr;split at hr
  .rename_i hn;exact absurd hr hn
  .rename_i hn;have hs:=Rw ho h0 h1 (fC hn);obtain⟨_,_,_,n0,n1⟩:=Lm ho hs.2.2.2.1;have hi:inn p.Oper=true:=hp _ (by simp[opers]);rw[hs.2.2.2.2.1]at hr;have ih:=rO ho inn A ps (p.Oper::prev) (mE o (gi l p.Oper) st).1 n0 n1 (λx hx=>hp x (by simp only[opers,ba]at hx ⊢; exact aw _ hx)) hA hr;have e:Ay o l inn (opers (p::ps)++A) st=st::Ay o l inn (opers ps++A) (mE o (gi l p.Oper) st).1:=by show Ay o l inn (p.Oper::(opers ps++A)) st=_;simp[Ay,hi]
   have eo:opers (p::ps)++A=p.Oper::(opers ps++A):=rfl;rw[e,eo];refine⟨?_,λk hk=>?_,λk hk=>?_⟩
   .rw[Qa,if_pos hi,ih.1,←hs.2.2.2.2.2];rfl
   .cases k with
    |zero=>grind[wj,a2]
    |succ k =>
     have ln:(opers ps++A).length=ps.length+A.length:=by simp[opers]
     grind[Bw,vS]
   .cases k with
    |zero=>grind[a2,wj]
    |succ k=>grind[Bw,vS]
theorem yw{p:List aC}{x:Int}:x∈HV l p↔(0<=x/\x<l.length)/\x∉opers p:=by
 unfold HV;rw[dx,aq];constructor
 .rintro⟨⟨i,hi,rfl⟩,h⟩;have:=bM.1 hi;exact⟨⟨Int.natCast_nonneg i,by show(i:Int)<_;omega⟩,by simpa using h⟩
 .rintro⟨⟨h0,h1⟩,h⟩;exact⟨⟨x.toNat,bM.2 (by omega),by show((x.toNat:Nat):Int)=x;omega⟩,by simpa using h⟩
theorem MU{p:List aC}(hp:(opers p).Nodup):(wH l p).Nodup:=by
 refine List.nodup_append.2 ⟨hp,(oX _).sublist (List.filter_sublist ..),λa ha b hb e=>?_⟩;subst e;exact(yw.1 hb).2 ha
theorem MV{p:List aC}(hr:∀x∈opers p,0<=x/\x<l.length):∀x∈wH l p,0<=x/\x<l.length:=by
 intro x hx;rcases aV.1 hx with hx|hx
 .exact hr x hx
 .exact(yw.1 hx).1
theorem Cv{p:List aC}{x:Int}(h0:0<=x)(h1:x<l.length):x∈wH l p:=by
 by_cases h:x∈opers p
 .exact aV.2 (.inl h)
 .exact aV.2 (.inr (yw.2 ⟨⟨h0,h1⟩,h⟩))
theorem SX{p:List aC}(hp:(opers p).Nodup)(hr:∀x∈opers p,0<=x/\x<l.length):(wH l p).length=l.length:=by
 have h1:=xz l.length _ (MU (l:=l) hp) (MV hr);have h2:=Ms ((List.range l.length).map Int.ofNat) (wH l p) (oX _) (λx hx=>by
  obtain⟨i,hi,rfl⟩:=aq.1 hx;have:=bM.1 hi;exact Cv (Int.natCast_nonneg i) (by show(i:Int)<_;omega))
 grind
theorem TH{p:List aC}(h:mX o l p=true):Gd o l (wH l p) (Ay o l (vm p) (wH l p) o.eZ) (vm p)/\Qa o l (vm p) (wH l p) (Ay o l (vm p) (wH l p) o.eZ)=p:=by
 obtain⟨ho,hc,nz,X2,hmiss⟩:=TX.1 h;obtain⟨ZN,hr⟩:=Cn nz;obtain⟨Lu,i0,i1⟩:=Ll ho;have nz:(fY o l [] o.eZ p).2.2=0:=by unfold ja dC at nz;grind
 have hin:∀x∈opers p,vm p x=true:=λx hx=>jP hx;have Uk:∀x∈HV l p,vm p x=false:=λx hx=>kY (yw.1 hx).2;obtain⟨P1,P2,P3⟩:=rO ho (vm p) (HV l p) p [] o.eZ i0 i1 hin Uk nz;have hL:=SX ZN hr;have hN:=MU (l:=l) ZN;have A9:(opers p).length=p.length:=by simp[opers]
 have ended:∀i:Nat,i<l.length->(gi l (i:Int)).End≠-1->(i:Int)∈opers p:=λi hi he=>fC λhn=>hmiss i (vf.2 ⟨by omega,by omega,he,hn⟩)
 have left:∀k:Nat,k<p.length->gi (wH l p) (k:Int)=(gi p (k:Int)).Oper:=by intro k hk;unfold wH;rw[dM _ _ (by rw[aS];omega),List.getElem_append_left (by omega),dM _ _ hk];simp[opers]
 have right:∀k:Nat,p.length<=k->k<l.length->gi (wH l p) (k:Int)∉opers p:=by intro k hk yT;unfold wH at hL ⊢; grind[dM,List.getElem_append_right,List.getElem_mem]
 refine⟨⟨hL,by rw[vS,hL],hN,MV hr,BU _ _ _ _ _,λk hk=>P3 k (by unfold wH at hL;omega),?_,λi hi he=>jP (ended i hi he),?_,?_⟩,P1⟩
 .intro pr Hs;obtain⟨i,j,hi,hj,rfl,ha⟩:=EZ.1 Hs;have hie:=ended i hi (Qx ha);obtain⟨a,QS,ea⟩:=JX (Cv (l:=l) (p:=p) (x:=(i:Int)) (by omega) (by omega));obtain⟨b,hb1,eb⟩:=JX (Cv (l:=l) (p:=p) (x:=(j:Int)) (by omega) (by omega));have e:=Vm hN QS hb1;rw[ea,eb]at e;rw[e];refine kY λeB=>?_;have PI:(i:Int)∈opers (p.take b):=fC λhn=>by grind[Vl]
  unfold opers at PI;rw[List.map_take]at PI;obtain⟨c,hc1,ec⟩:=nO PI;rw[bH,da]at hc1;have ec':gi (wH l p) (c:Int)=(i:Int):=by grind[dM]
  have:c=a:=by grind[GR]
  omega
 .intro k hk hb;have hkp:k<p.length:=fC λhn=>right k (by omega) hk (aF hb);refine⟨P2 k hkp,?_⟩;rw[BV o l _ _ _ k (by omega),if_pos hb]
 grind[BV]
end
section
variable{o:ae}{l:List aj}{s:ab}{order row:List Int}{inn:Int->Bool}
def Vj(n S:Nat)(order row:List Int)(inn:Int->Bool)(v:Nat):Bool :=
 if v<n*n then gi order ((v%n:Nat):Int)==((v/n:Nat):Int)else if v<n*n+n then inn ((v-n*n:Nat):Int)
 else gi row (((v-(n*n+n))/S:Nat):Int)==(((v-(n*n+n))%S:Nat):Int)
def D3(s:ab)(order row:List Int)(inn:Int->Bool):List Bool:=(List.range (aM s).toNat).map (Vj s.bI.toNat s.az.toNat order row inn)
theorem yc(hc:au s=0):(aM s).toNat=s.bI.toNat*s.bI.toNat+s.bI.toNat+(s.bI.toNat+1)*s.az.toNat/\0<=aM s:=by
 obtain⟨c0,c1,c2,c3⟩:=iQ hc;have:aM s=((s.bI.toNat*s.bI.toNat+s.bI.toNat+(s.bI.toNat+1)*s.az.toNat:Nat):Int):=by unfold aM;grind
 omega
theorem Rk(hc:au s=0){v:Nat}(h:v<(aM s).toNat):gi (D3 s order row inn) (v:Int)=Vj s.bI.toNat s.az.toNat order row inn v:=by
 unfold D3;grind[dM]
theorem FX(hc:au s=0):((D3 s order row inn).length:Int)=aM s:=by
 have:=yc hc;simp[D3];omega
theorem Xo{a k n:Nat}(ha:a<n)(hk:k<n):a*n+k<n*n:=by
 have:(a+1)*n<=n*n:=cP n ha;grind
theorem ahi{a k n:Nat}(hk:k<n):(a*n+k)/n=a/\(a*n+k)%n=k:=by
 have h0:0<n:=by omega
 constructor
 .rw[Nat.mul_comm,Nat.mul_add_div h0,Nat.div_eq_of_lt hk,c9]
 .rw[Nat.mul_comm,Nat.mul_add_mod,Nat.mod_eq_of_lt hk]
theorem FW(hc:au s=0){a k:Nat}(ha:a<s.bI.toNat)(hk:k<s.bI.toNat):wG s (D3 s order row inn) (a:Int) (k:Int)=(gi order (k:Int)==(a:Int)):=by
 have hv:=yc hc;have hr:=Xo ha hk;have hd:=ahi (a:=a) hk;have e:=(yC hc (a:=(a:Int)) (k:=(k:Int)) (by omega) (by omega) (by omega) (by omega)).1;have e2:eG s a k-1=((a*s.bI.toNat+k:Nat):Int):=by grind
 unfold wG;rw[e2,Rk hc (by omega)];unfold Vj;grind
theorem aeh(hc:au s=0){i:Nat}(hi:i<s.bI.toNat):QI s (D3 s order row inn) (i:Int)=inn (i:Int):=by
 have hv:=yc hc;have e:=(ZC hc (i:=(i:Int)) (by omega) (by omega)).1;have e2:oS s i-1=((s.bI.toNat*s.bI.toNat+i:Nat):Int):=by grind
 unfold QI;rw[e2,Rk hc (by omega)];unfold Vj;grind
theorem Y6(hc:au s=0){a b:Nat}(ha:a<=s.bI.toNat)(hb:b<s.az.toNat):on s (D3 s order row inn) (a:Int) (b:Int)=(gi row (a:Int)==(b:Int)):=by
 obtain⟨c0,c1,c2,c3⟩:=iQ hc;have hv:=yc hc;have hr:a*s.az.toNat+b<(s.bI.toNat+1)*s.az.toNat:=by have:(a+1)*s.az.toNat<=(s.bI.toNat+1)*s.az.toNat:=cP _ (by omega);grind
 have hd:=ahi (a:=a) hb;have e:=(N6 hc (a:=(a:Int)) (b:=(b:Int)) (by omega) (by omega) (by omega) (by omega)).1;have e2:cA s a b-1=((s.bI.toNat*s.bI.toNat+s.bI.toNat+(a*s.az.toNat+b):Nat):Int):=by grind
 unfold on;rw[e2,Rk hc (by omega)];unfold Vj;grind
theorem Gx{L:List Int}(hd:L.Nodup){x:Int}(h:∀y,y∈L↔y=x):L=[x]:=by
 cases L with
 |nil=>exact absurd ((h x).2 rfl) (by simp)
 |cons y r =>
  have hy:=(h y).1 (by simp);subst hy;cases r with
  |nil=>rfl
  |cons z q=>simp_all
theorem RH(t:Nat)(p:Int->Bool):(sS t p).Nodup:=(oX t).sublist (List.filter_sublist ..)
theorem Rj(s:ab)(m:List Bool)(a:Int)(t:Nat):(uG s m a t).Nodup:=(oX t).sublist (List.filter_sublist ..)
theorem Rl(hc:au s=0)(hL:order.length=s.bI.toNat)(hr:∀x∈order,0<=x/\x<s.bI.toNat){k:Nat}(hk:k<s.bI.toNat):sS s.bI.toNat (λa=>wG s (D3 s order row inn) a (k:Int))=[gi order (k:Int)]:=by
 have hx:=hr _ (dq (l:=order) (i:=(k:Int)) (by omega) (by omega));refine Gx (RH _ _) λy=>?_;rw[nP];constructor
 .rintro⟨y0,y1,h⟩;have:=FW (order:=order) (row:=row) (inn:=inn) hc (a:=y.toNat) (k:=k) (by omega) hk;rw[show((y.toNat:Nat):Int)=y by omega]at this;rw[this]at h;exact(by simpa using h:gi order (k:Int)=y).symm
 .rintro rfl;refine⟨hx.1,hx.2,?_⟩;have:=FW (order:=order) (row:=row) (inn:=inn) hc (a:=(gi order (k:Int)).toNat) (k:=k) (by omega) hk;rw[show(((gi order (k:Int)).toNat:Nat):Int)=gi order (k:Int) by omega]at this;rw[this];simp
theorem aar(hc:au s=0)(hL:order.length=s.bI.toNat)(hd:order.Nodup)(hr:∀x∈order,0<=x/\x<s.bI.toNat):lu s (D3 s order row inn)/\(bz s (D3 s order row inn)).1=order:=by
 have hM:lu s (D3 s order row inn):=by
  refine⟨hc,FX hc,λa ha=>?_,λk hk=>?_⟩
  .have ha:=bM.1 ha;obtain⟨k,hk,ek⟩:=JX (tA hd hr hL (i:=(a:Int)) (by omega) (by omega));have:sS s.bI.toNat (wG s (D3 s order row inn) (a:Int))=[(k:Int)]:=by
    refine Gx (RH _ _) λy=>?_;rw[nP];constructor
    .rintro⟨y0,y1,h⟩;have:=FW (order:=order) (row:=row) (inn:=inn) hc (a:=a) (k:=y.toNat) ha (by omega);rw[show((y.toNat:Nat):Int)=y by omega]at this;rw[this]at h;have h:gi order y=(a:Int):=by simpa using h
     have i1:=GR hd (k:=y.toNat) (by omega);rw[show((y.toNat:Nat):Int)=y by omega,h,←ek,GR hd hk]at i1;exact i1.symm
    grind[FW]
   rw[this];rfl
  .rw[Rl hc hL hr (bM.1 hk)];rfl
 refine⟨hM,?_⟩;have h1:=vZ (wg hM);refine UJ (by omega) λj hj hj2=>?_;have e:j=((j.toNat:Nat):Int):=by omega
 rw[e,LF hM (by omega)];unfold VK;rw[Rl hc hL hr (by omega)];rfl
theorem aaq(hc:au s=0)(hL:row.length=s.bI.toNat+1)(hr:∀k:Nat,k<=s.bI.toNat->0<=gi row (k:Int)/\gi row (k:Int)<s.az.toNat):DL s (D3 s order row inn)/\(iI s (D3 s order row inn)).1=row:=by
 obtain⟨c0,c1,c2,c3⟩:=iQ hc;have key:∀a:Nat,a<=s.bI.toNat->uG s (D3 s order row inn) (a:Int) s.az.toNat=[gi row (a:Int)]:=by
  intro a ha;have hx:=hr a ha;refine Gx (Rj _ _ _ _) λy=>?_;rw[zq];constructor
  .rintro⟨y0,y1,h⟩;have:=Y6 (order:=order) (row:=row) (inn:=inn) hc (a:=a) (b:=y.toNat) ha (by omega);rw[show((y.toNat:Nat):Int)=y by omega]at this;rw[this]at h;exact(by simpa using h:gi row (a:Int)=y).symm
  .rintro rfl;refine⟨hx.1,hx.2,?_⟩;have:=Y6 (order:=order) (row:=row) (inn:=inn) hc (a:=a) (b:=(gi row (a:Int)).toNat) ha (by omega);rw[show(((gi row (a:Int)).toNat:Nat):Int)=gi row (a:Int) by omega]at this;rw[this];simp
 have hR:DL s (D3 s order row inn):=by refine aO.2 λa ha=>?_;unfold oneOf;grind
 refine⟨hR,?_⟩;have h1:=WC (s:=s) (m:=D3 s order row inn) (by rw[R7 hc (FX hc) hR]);refine UJ (by omega) λj hj hj2=>?_;have e:j=((j.toNat:Nat):Int):=by omega
 rw[e,UI hc (FX hc) hR (by omega)];unfold zS;grind
theorem Gd.congr{abJ:Int->Bool}(G:Gd o l order row inn)(h:∀x:Int,0<=x->x<l.length->abJ x=inn x):Gd o l order row abJ:=by
 have hx:∀k:Nat,k<l.length->abJ (gi order (k:Int))=inn (gi order (k:Int)):=λk hk=>by have:=G.rng _ (dq (l:=order) (i:=(k:Int)) (by omega) (by have:=G.len;omega));grind
 exact⟨G.len,G.aeG,G.nd,G.rng,G.init,G.st,G.time,λi hi he=>by rw[h _ (by omega) (by omega)];exact G.ended i hi he,λk hk hb=>G.mv k hk (by rw[←hx k hk];exact hb),λk hk hb=>G.stay k hk (by rw[←hx k hk];exact hb)⟩
theorem ahk{m:List Bool}{z:ab}(hz:z8 o l z)(hl:(m.length:Int)=aM (bu o l)):Cx o l (bu o l) m:=by
 obtain⟨_,ho,_,e2,hk⟩:=Bl hz;exact⟨hk,hl,by rw[e2],by rw[e2],ho⟩
theorem TG{p:List aC}{z:ab}(hz:z8 o l z)(h:mX o l p=true):
  ∃m:List Bool,(m.length:Int)=aM (bu o l)/\(FG o l (bu o l)).all (wJ m)=true:=by
 obtain⟨_,ho,_,e2,hk⟩:=Bl hz;obtain⟨G,e⟩:=TH h;generalize hor:wH l p=order at *; generalize hro:Ay o l (vm p) order o.eZ=row at *; have hO:(bu o l).bI.toNat=l.length:=by rw[e2];show((l.length:Int)).toNat=_;omega
 have hS:(bu o l).az=o.az:=by rw[e2]
 have hl:=FX (order:=order) (row:=row) (inn:=vm p) hk;obtain⟨hM,eo⟩:=aar (order:=order) (row:=row) (inn:=vm p) hk (by rw[hO];exact G.len) G.nd (λx hx=>by rw[hO];exact G.rng x hx);obtain⟨hR,er⟩:=aaq (order:=order) (row:=row) (inn:=vm p) hk (by rw[hO];exact G.aeG) (λk hk=>by have:=G.st k (by omega);rw[hS];omega);have hin:∀x:Int,0<=x->x<l.length->QI (bu o l) (D3 (bu o l) order row (vm p)) x=vm p x:=λx h0 h1=>by have:=aeh (order:=order) (row:=row) (inn:=vm p) hk (i:=x.toNat) (by omega);grind
 have G':Gd o l (bz (bu o l) (D3 (bu o l) order row (vm p))).1 (iI (bu o l) (D3 (bu o l) order row (vm p))).1 (QI (bu o l) (D3 (bu o l) order row (vm p))):=by grind[G.congr]
 exact⟨_,hl,UG (ahk hz hl) rfl hM hR G'⟩
end
end
end Go.Proofs.Y
