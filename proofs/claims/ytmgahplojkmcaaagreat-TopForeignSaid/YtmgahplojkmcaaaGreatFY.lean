/- Lemmas. Conditions: their own. -/
import Derived.Shelf.SlIterI.Nil
import Derived.Shelf.SortM.Plain
import Derived.Shelf.SortM.SortNone
import Derived.Shelf.Small.Strs
import Derived.Shelf.Strings.Search2
import Derived.Shelf.Slices.CompactI
import Derived.Ground.GgzProg
import Derived.Ground.SlgmProg
import Derived.Ground.NamesProg
import Derived.Ground.Names2Prog
import Derived.Test.YtmgahplojkmcaaaGreatProg
set_option linter.all false
namespace Go.Proofs
open Go.Shelf
section
def Tryz.IC:Go.Shelf.Ren:=⟨fun|137=>136|217=>219|266=>287|n=>n,fun|9=>9|5=>5|3=>3|n=>n,fun|n=>n⟩
theorem Tryz.Xx:Go.Proofs.Lays.n137 Tryz.prog Tryz.IC:={
 mixed:=by kernel_rfl
 f137:=Tryz.func136.trans (congrArg some (by kernel_rfl))
 f217:=Tryz.func219.trans (congrArg some (by kernel_rfl))
 f266:=Tryz.func287.trans (congrArg some (by kernel_rfl))
 t3:=Tryz.underlying3
 a3:=Tryz.isAgg3
 z3:=Tryz.sizeOf3
 v3:=Tryz.zeroValue3
 t5:=Tryz.underlying5
 a5:=Tryz.isAgg5
 z5:=Tryz.sizeOf5
 v5:=Tryz.zeroValue5
 t9:=Tryz.underlying9
 a9:=Tryz.isAgg9
 z9:=Tryz.sizeOf9
 v9:=Tryz.zeroValue9 }
def Tryz.IB:Go.Shelf.Ren:=⟨fun|219=>217|217=>219|225=>284|224=>285|267=>286|266=>287|314=>369|n=>n,fun|9=>9|3=>3|4=>4|5=>5|46=>234|146=>363|51=>181|n=>n,fun|1=>0|n=>n⟩
theorem Tryz.Xw:Go.Proofs.Lays.n219 Tryz.prog Tryz.IB:={
 mixed:=by kernel_rfl
 f217:=Tryz.func219.trans (congrArg some (by kernel_rfl))
 f219:=Tryz.func217.trans (congrArg some (by kernel_rfl))
 f224:=Tryz.func285.trans (congrArg some (by kernel_rfl))
 f225:=Tryz.func284.trans (congrArg some (by kernel_rfl))
 f266:=Tryz.func287.trans (congrArg some (by kernel_rfl))
 f267:=Tryz.func286.trans (congrArg some (by kernel_rfl))
 f314:=Tryz.func369.trans (congrArg some (by kernel_rfl))
 t3:=Tryz.underlying3
 a3:=Tryz.isAgg3
 z3:=Tryz.sizeOf3
 v3:=Tryz.zeroValue3
 t4:=Tryz.underlying4
 a4:=Tryz.isAgg4
 z4:=Tryz.sizeOf4
 v4:=Tryz.zeroValue4
 t5:=Tryz.underlying5
 a5:=Tryz.isAgg5
 z5:=Tryz.sizeOf5
 v5:=Tryz.zeroValue5
 t9:=Tryz.underlying9
 a9:=Tryz.isAgg9
 z9:=Tryz.sizeOf9
 v9:=Tryz.zeroValue9
 t46:=Tryz.underlying234
 a46:=Tryz.isAgg234
 z46:=Tryz.sizeOf234
 v46:=Tryz.zeroValue234
 t51:=Tryz.underlying181
 a51:=Tryz.isAgg181
 z51:=Tryz.sizeOf181
 v51:=Tryz.zeroValue181
 t146:=Tryz.underlying363
 a146:=Tryz.isAgg363
 z146:=Tryz.sizeOf363
 v146:=Tryz.zeroValue363
 g1:=by kernel_rfl }
def Tryz.He:Go.Shelf.Ren:=⟨fun|20=>112|n=>n,fun|22=>42|3=>3|4=>4|0=>0|n=>n,fun|n=>n⟩
theorem Tryz.JI:Go.Proofs.Lays2.n20 Tryz.prog Tryz.He:={
 mixed:=by kernel_rfl
 f20:=Tryz.func112.trans (congrArg some (by kernel_rfl))
 t0:=Tryz.underlying0
 a0:=Tryz.isAgg0
 z0:=Tryz.sizeOf0
 v0:=Tryz.zeroValue0
 t3:=Tryz.underlying3
 a3:=Tryz.isAgg3
 z3:=Tryz.sizeOf3
 v3:=Tryz.zeroValue3
 t4:=Tryz.underlying4
 a4:=Tryz.isAgg4
 z4:=Tryz.sizeOf4
 v4:=Tryz.zeroValue4
 t22:=Tryz.underlying42
 a22:=Tryz.isAgg42
 z22:=Tryz.sizeOf42
 v22:=Tryz.zeroValue42
 i3:=by kernel_rfl }
def Tryz.uM:Go.Shelf.Ren:=⟨fun|6=>113|8=>172|9=>173|11=>232|13=>234|12=>233|23=>311|24=>312|14=>303|15=>304|16=>305|17=>306|18=>307|19=>308|20=>238|21=>309|22=>310|25=>379|26=>380|27=>381|28=>382|29=>383|30=>316|31=>416|n=>n,fun|26=>3|28=>206|24=>42|0=>0|3=>3|37=>234|48=>181|50=>308|4=>4|40=>383|39=>382|45=>149|5=>5|9=>9|51=>431|55=>435|57=>453|58=>83|33=>174|n=>n,fun|n=>n⟩
theorem Tryz.Mt:Go.Proofs.SlLaysZI.n6 Tryz.prog Tryz.uM:={
 mixed:=by kernel_rfl
 f6:=⟨Tryz.f113.name,by decide,Tryz.func113.trans (congrArg some (by kernel_rfl))⟩
 f8:=⟨Tryz.f172.name,by decide,Tryz.func172.trans (congrArg some (by kernel_rfl))⟩
 f11:=⟨Tryz.f232.name,by decide,Tryz.func232.trans (congrArg some (by kernel_rfl))⟩
 t0:=Tryz.underlying0
 a0:=Tryz.isAgg0
 z0:=Tryz.sizeOf0
 v0:=Tryz.zeroValue0
 t24:=Tryz.underlying42
 a24:=Tryz.isAgg42
 z24:=Tryz.sizeOf42
 v24:=Tryz.zeroValue42
 t26:=Tryz.underlying3
 a26:=Tryz.isAgg3
 z26:=Tryz.sizeOf3
 v26:=Tryz.zeroValue3
 t28:=Tryz.underlying206
 a28:=Tryz.isAgg206
 z28:=Tryz.sizeOf206
 v28:=Tryz.zeroValue206
 i26:=by kernel_rfl }
def Tryz.OG:Go.Shelf.Ren:=⟨fun|5=>173|8=>234|7=>233|19=>311|20=>312|10=>303|11=>304|12=>305|13=>306|14=>307|15=>308|16=>238|17=>309|18=>310|30=>379|31=>380|32=>381|33=>382|34=>383|35=>316|40=>416|n=>n,fun|23=>42|25=>3|3=>3|32=>234|22=>42|0=>0|44=>181|46=>308|4=>4|36=>383|35=>382|41=>149|5=>5|9=>9|53=>431|57=>435|63=>453|64=>83|n=>n,fun|n=>n⟩
theorem Tryz.Y9:Go.Proofs.SlLaysM.n5 Tryz.prog Tryz.OG:={
 mixed:=by kernel_rfl
 f5:=⟨Tryz.f173.name,by decide,Tryz.func173.trans (congrArg some (by kernel_rfl))⟩
 f7:=⟨Tryz.f233.name,by decide,Tryz.func233.trans (congrArg some (by kernel_rfl))⟩
 f8:=Tryz.func234.trans (congrArg some (by kernel_rfl))
 f10:=⟨Tryz.f303.name,by decide,Tryz.func303.trans (congrArg some (by kernel_rfl))⟩
 f11:=⟨Tryz.f304.name,by decide,Tryz.func304.trans (congrArg some (by kernel_rfl))⟩
 f12:=⟨Tryz.f305.name,by decide,Tryz.func305.trans (congrArg some (by kernel_rfl))⟩
 f13:=⟨Tryz.f306.name,by decide,Tryz.func306.trans (congrArg some (by kernel_rfl))⟩
 f14:=⟨Tryz.f307.name,by decide,Tryz.func307.trans (congrArg some (by kernel_rfl))⟩
 f15:=⟨Tryz.f308.name,by decide,Tryz.func308.trans (congrArg some (by kernel_rfl))⟩
 f16:=⟨Tryz.f238.name,by decide,Tryz.func238.trans (congrArg some (by kernel_rfl))⟩
 f17:=⟨Tryz.f309.name,by decide,Tryz.func309.trans (congrArg some (by kernel_rfl))⟩
 f18:=⟨Tryz.f310.name,by decide,Tryz.func310.trans (congrArg some (by kernel_rfl))⟩
 f19:=Tryz.func311.trans (congrArg some (by kernel_rfl))
 f20:=Tryz.func312.trans (congrArg some (by kernel_rfl))
 f30:=⟨Tryz.f379.name,by decide,Tryz.func379.trans (congrArg some (by kernel_rfl))⟩
 f31:=Tryz.func380.trans (congrArg some (by kernel_rfl))
 f32:=Tryz.func381.trans (congrArg some (by kernel_rfl))
 f33:=⟨Tryz.f382.name,by decide,Tryz.func382.trans (congrArg some (by kernel_rfl))⟩
 f34:=⟨Tryz.f383.name,by decide,Tryz.func383.trans (congrArg some (by kernel_rfl))⟩
 f35:=⟨Tryz.f316.name,by decide,Tryz.func316.trans (congrArg some (by kernel_rfl))⟩
 f40:=⟨Tryz.f416.name,by decide,Tryz.func416.trans (congrArg some (by kernel_rfl))⟩
 t0:=Tryz.underlying0
 a0:=Tryz.isAgg0
 z0:=Tryz.sizeOf0
 v0:=Tryz.zeroValue0
 t3:=Tryz.underlying3
 a3:=Tryz.isAgg3
 z3:=Tryz.sizeOf3
 v3:=Tryz.zeroValue3
 t4:=Tryz.underlying4
 a4:=Tryz.isAgg4
 z4:=Tryz.sizeOf4
 v4:=Tryz.zeroValue4
 t5:=Tryz.underlying5
 a5:=Tryz.isAgg5
 z5:=Tryz.sizeOf5
 v5:=Tryz.zeroValue5
 t9:=Tryz.underlying9
 a9:=Tryz.isAgg9
 z9:=Tryz.sizeOf9
 v9:=Tryz.zeroValue9
 t22:=Tryz.underlying42
 a22:=Tryz.isAgg42
 z22:=Tryz.sizeOf42
 v22:=Tryz.zeroValue42
 t23:=Tryz.underlying42
 a23:=Tryz.isAgg42
 z23:=Tryz.sizeOf42
 v23:=Tryz.zeroValue42
 t25:=Tryz.underlying3
 a25:=Tryz.isAgg3
 z25:=Tryz.sizeOf3
 v25:=Tryz.zeroValue3
 t32:=Tryz.underlying234
 a32:=Tryz.isAgg234
 z32:=Tryz.sizeOf234
 v32:=Tryz.zeroValue234
 t35:=Tryz.underlying382
 a35:=Tryz.isAgg382
 z35:=Tryz.sizeOf382
 v35:=Tryz.zeroValue382
 t36:=Tryz.underlying383
 a36:=Tryz.isAgg383
 z36:=Tryz.sizeOf383
 v36:=Tryz.zeroValue383
 t41:=Tryz.underlying149
 a41:=Tryz.isAgg149
 z41:=Tryz.sizeOf149
 v41:=Tryz.zeroValue149
 t44:=Tryz.underlying181
 a44:=Tryz.isAgg181
 z44:=Tryz.sizeOf181
 v44:=Tryz.zeroValue181
 t46:=Tryz.underlying308
 a46:=Tryz.isAgg308
 z46:=Tryz.sizeOf308
 v46:=Tryz.zeroValue308
 t53:=Tryz.underlying431
 a53:=Tryz.isAgg431
 z53:=Tryz.sizeOf431
 v53:=Tryz.zeroValue431
 t57:=Tryz.underlying435
 a57:=Tryz.isAgg435
 z57:=Tryz.sizeOf435
 v57:=Tryz.zeroValue435
 t63:=Tryz.underlying453
 a63:=Tryz.isAgg453
 z63:=Tryz.sizeOf453
 v63:=Tryz.zeroValue453
 t64:=Tryz.underlying83
 a64:=Tryz.isAgg83
 z64:=Tryz.sizeOf83
 v64:=Tryz.zeroValue83 }
end
end Go.Proofs
namespace Go.Proofs
open Go.RowKit Go.Maps Go.Sort Go.Shelf
section
theorem Tryz.RA(m:Nat):AnyZI.SortsIn Tryz.prog Tryz.uM Fence.wide m :=
 ⟨λwQ off cap ss W hH amo jh=>callsIn_wide.2 (AnyM.slices_Sort_int Tryz.Y9 wQ off cap ss W hH amo jh),
  λp cap W=>callsIn_wide.2 (AnyM.slices_Sort_int_none Tryz.Y9 p cap W)⟩
set_option maxRecDepth 100000 in
set_option maxHeartbeats 1000000 in
theorem Tryz.Lq{H:Type}(F:Fence)(n:Nat)(h10:F.fn 315)(hro:F.round=none)(hn:1<=n)(l Bm so b nn:Nat)(D0:DataW H){R:Value->Option (DataW H×List MemPlace)}(J:List Int->World->Prop)
  (hY:∀pre x W,J pre W->pre.length<Maps.size D0->YieldAt F (n-1) Tryz.prog l #[encZ x] W λe W'=>e=.returned (.bool true)/\J (pre++[x]) W'/\KeepsWalks W W')
  (W:World) (hJ:AbidesFrom W.heap.size J) (hm:W.cell? ⟨Bm,so,none⟩=some (.map (some b))) (zW:W.ownsMap Tryz.prog 3 R b nn D0) (h0:J [] W) :
  CallsIn F n Tryz.prog 315 #[.func (.yield l) #[] #[],.pointer (some ⟨Bm,so,none⟩)] W λe W'=>(∃v,e=.returned v)/\∃ss:List Int,(ss.Nodup/\∀x,x∈ss↔Maps.has D0 (.int .i64 x)=true)/\J ss W':=by
 refine callsIn_of_wp Tryz.func315 rfl h10 ?_ hro;simp only[Tryz.ntmps315,List.size_toArray,List.length_cons,List.length_nil,Nat.reduceAdd,Nat.reduceSub,Array.replicate_succ,Array.replicate_zero,List.push_toArray,List.append_toArray,List.nil_append,List.cons_append]
 gi_wp2_with (first
  |(gi_at_range;refine wpListIn_range_own _ rfl _ 122 rfl 3 42 (int_keyed Tryz.underlying3) Tryz.underlying122 _ b nn _ rfl zW ?_;intro w0 ab1 hg0 hs0)
  |gi_in)
 go_frame
 gi_loopw [3] (λ_ wr=>∃(left:Lit->Bool)(vG:Nat)(ss:List Int),wr.ranges Tryz.prog 3 R b W.heap.size nn D0 left vG/\ss.length+vG<=Maps.size D0/\CollectedI D0 left ss/\J ss wr)
  (λ_ wr=>wr.rangeLeft b W.heap.size)
 case atStart=>exact⟨_,_,[],ab1,by simp,CollectedI.start D0,hJ [] W w0 none h0 hg0 (λr e=>by cases e)⟩
 case round =>
  obtain⟨left,vG,ss,XL,sU,hC,V5⟩:=hrel
  gi_wp2_with (first
   |(gi_at_next;refine wpListIn_next_ranges _ rfl _ rfl 3 (int_keyed Tryz.underlying3) R encZ id (λkey kl hk=>by obtain⟨x,hx,_⟩:=Maps.keyOf_i64 Tryz.underlying3 hk;exact⟨x,hx⟩) (λv _ _=>⟨v,rfl⟩) b W.heap.size nn _ _ _ rfl XL ?_ ?_)
   |gi_in)
  .intro DX hl0;gi_wp2;go_end0;exact⟨⟨_,rfl⟩,ss,⟨hC.1,λx=>by rw[hC.2 x,hl0];simp⟩,V5⟩
  .intro x c kl yd yp w2 adb acg Ny hv hat ab0 eB Lx hs2 PQ;obtain⟨x',ex,rfl,_⟩:=Maps.keyOf_i64 Tryz.underlying3 acg;obtain rfl:x=x':=encZ_inj ex;have hJ2:J ss w2:=hJ ss wr w2 (some W.heap.size) V5 Lx (λr e=>by cases e;exact⟨Nat.le_refl _,XL.iter_walk⟩);obtain⟨fn,tmps,assign,body,hy,hR⟩:=hY ss x w2 hJ2 (by omega);clear hs2;gi_wp2;refine hR.mono ?_;rintro e W3 ⟨rfl,hJ3,hk3⟩;gi_wp2;have Ui:=ab0.of_walks hk3
   go_roundw
   case rel=>exact⟨_,adb,ss++[x],Ui,by simp;omega,hC.step Ny hat,hJ3⟩
   case measure=>rw[Ui.left_eq,XL.left_eq];exact eB
theorem Tryz.OF{H:Type}(Bm so b nn:Nat)(D0:DataW H){R:Value->Option (DataW H×List MemPlace)}(w:World)(hBm:Bm<w.heap.size)
  (hm:w.cell? ⟨Bm,so,none⟩=some (.map (some b))) (zW:w.ownsMap Tryz.prog 3 R b nn D0) (Un:Maps.size D0<=maxLen) (LC:Maps.size D0*8<=140737488355328) :
  Calls Tryz.prog 113 #[.func (.func 315) #[] #[.pointer (some ⟨Bm,so,none⟩)]] w λe w'=>∃(v:Value)(ss:List Int),e=.returned v/\(ss.Nodup/\∀x,x∈ss↔Maps.has D0 (.int .i64 x)=true) /\
   w'.ownsRow w.heap.size 3 1 v ss.length ((ss.mergeSort (λx y=>decide (x<=y))).map encZ)/\(v=.slice none 0 0↔ss=[])/\Below w.heap.size w w' :=
 (callsIn_wide (n:=5)).1 (AnyZI.sorted_in Tryz.Mt Fence.wide 5 trivial trivial trivial trivial rfl (by omega) (Tryz.RA _) (enters_of Tryz.func173 (by kernel_rfl) rfl) 315 _ trivial (enters_of Tryz.func315 (by kernel_rfl) rfl) _ _ Un LC w
  λl J W hW hJ hY h0=>Tryz.Lq Fence.wide 2 trivial rfl (by omega) l Bm so b nn D0 J hY W hJ ((hW.cell (p:=⟨Bm,so,none⟩) hBm).trans hm) (by
   have ZY:=zW.lt;obtain⟨es,clock,hb,Ft,hs,hD⟩:=zW;exact⟨es,clock,(hW.block b ZY).trans hb,Ft,hs,hD⟩) h0)
set_option maxRecDepth 100000 in
set_option maxHeartbeats 1000000 in
theorem Tryz.Lp{H:Type}(F:Fence)(n:Nat)(h10:F.fn 419)(hro:F.round=none)(hn:1<=n)(l Bm so b nn:Nat)(D0:DataW H){R:Value->Option (DataW H×List MemPlace)}(J:List Int->World->Prop)
  (hY:∀pre x W,J pre W->pre.length<Maps.size D0->YieldAt F (n-1) Tryz.prog l #[encZ x] W λe W'=>e=.returned (.bool true)/\J (pre++[x]) W'/\KeepsWalks W W')
  (W:World) (hJ:AbidesFrom W.heap.size J) (hm:W.cell? ⟨Bm,so,none⟩=some (.map (some b))) (zW:W.ownsMap Tryz.prog 3 R b nn D0) (h0:J [] W) :
  CallsIn F n Tryz.prog 419 #[.func (.yield l) #[] #[],.pointer (some ⟨Bm,so,none⟩)] W λe W'=>(∃v,e=.returned v)/\∃ss:List Int,(ss.Nodup/\∀x,x∈ss↔Maps.has D0 (.int .i64 x)=true)/\J ss W':=by
 refine callsIn_of_wp Tryz.func419 rfl h10 ?_ hro;simp only[Tryz.ntmps419,List.size_toArray,List.length_cons,List.length_nil,Nat.reduceAdd,Nat.reduceSub,Array.replicate_succ,Array.replicate_zero,List.push_toArray,List.append_toArray,List.nil_append,List.cons_append]
 gi_wp2_with (first
  |(gi_at_range;refine wpListIn_range_own _ rfl _ 170 rfl 3 3 (int_keyed Tryz.underlying3) Tryz.underlying170 _ b nn _ rfl zW ?_;intro w0 ab1 hg0 hs0)
  |gi_in)
 go_frame
 gi_loopw [3] (λ_ wr=>∃(left:Lit->Bool)(vG:Nat)(ss:List Int),wr.ranges Tryz.prog 3 R b W.heap.size nn D0 left vG/\ss.length+vG<=Maps.size D0/\CollectedI D0 left ss/\J ss wr)
  (λ_ wr=>wr.rangeLeft b W.heap.size)
 case atStart=>exact⟨_,_,[],ab1,by simp,CollectedI.start D0,hJ [] W w0 none h0 hg0 (λr e=>by cases e)⟩
 case round =>
  obtain⟨left,vG,ss,XL,sU,hC,V5⟩:=hrel
  gi_wp2_with (first
   |(gi_at_next;refine wpListIn_next_ranges _ rfl _ rfl 3 (int_keyed Tryz.underlying3) R encZ id (λkey kl hk=>by obtain⟨x,hx,_⟩:=Maps.keyOf_i64 Tryz.underlying3 hk;exact⟨x,hx⟩) (λv _ _=>⟨v,rfl⟩) b W.heap.size nn _ _ _ rfl XL ?_ ?_)
   |gi_in)
  .intro DX hl0;gi_wp2;go_end0;exact⟨⟨_,rfl⟩,ss,⟨hC.1,λx=>by rw[hC.2 x,hl0];simp⟩,V5⟩
  .intro x c kl yd yp w2 adb acg Ny hv hat ab0 eB Lx hs2 PQ;obtain⟨x',ex,rfl,_⟩:=Maps.keyOf_i64 Tryz.underlying3 acg;obtain rfl:x=x':=encZ_inj ex;have hJ2:J ss w2:=hJ ss wr w2 (some W.heap.size) V5 Lx (λr e=>by cases e;exact⟨Nat.le_refl _,XL.iter_walk⟩);obtain⟨fn,tmps,assign,body,hy,hR⟩:=hY ss x w2 hJ2 (by omega);clear hs2;gi_wp2;refine hR.mono ?_;rintro e W3 ⟨rfl,hJ3,hk3⟩;gi_wp2;have Ui:=ab0.of_walks hk3
   go_roundw
   case rel=>exact⟨_,adb,ss++[x],Ui,by simp;omega,hC.step Ny hat,hJ3⟩
   case measure=>rw[Ui.left_eq,XL.left_eq];exact eB
theorem Tryz.OE{H:Type}(Bm so b nn:Nat)(D0:DataW H){R:Value->Option (DataW H×List MemPlace)}(w:World)(hBm:Bm<w.heap.size)
  (hm:w.cell? ⟨Bm,so,none⟩=some (.map (some b))) (zW:w.ownsMap Tryz.prog 3 R b nn D0) (Un:Maps.size D0<=maxLen) (LC:Maps.size D0*8<=140737488355328) :
  Calls Tryz.prog 113 #[.func (.func 419) #[] #[.pointer (some ⟨Bm,so,none⟩)]] w λe w'=>∃(v:Value)(ss:List Int),e=.returned v/\(ss.Nodup/\∀x,x∈ss↔Maps.has D0 (.int .i64 x)=true) /\
   w'.ownsRow w.heap.size 3 1 v ss.length ((ss.mergeSort (λx y=>decide (x<=y))).map encZ)/\(v=.slice none 0 0↔ss=[])/\Below w.heap.size w w' :=
 (callsIn_wide (n:=5)).1 (AnyZI.sorted_in Tryz.Mt Fence.wide 5 trivial trivial trivial trivial rfl (by omega) (Tryz.RA _) (enters_of Tryz.func173 (by kernel_rfl) rfl) 419 _ trivial (enters_of Tryz.func419 (by kernel_rfl) rfl) _ _ Un LC w
  λl J W hW hJ hY h0=>Tryz.Lp Fence.wide 2 trivial rfl (by omega) l Bm so b nn D0 J hY W hJ ((hW.cell (p:=⟨Bm,so,none⟩) hBm).trans hm) (by
   have ZY:=zW.lt;obtain⟨es,clock,hb,Ft,hs,hD⟩:=zW;exact⟨es,clock,(hW.block b ZY).trans hb,Ft,hs,hD⟩) h0)
end
end Go.Proofs
