/- The keys of a map, sorted. No condition. -/
import Derived.Test.YtobeanopikjkeaaGreatExW
namespace Go.Proofs
open Go.RowKit Go.Maps Go.Sort Go.Shelf
set_option maxRecDepth 100000 in
set_option maxHeartbeats 1000000 in
theorem Tryz.FR {H:Type} (F:Fence) (n:Nat) (h10:F.fn 378) (Se:F.round=none) (hn:1≤n) (l Bm so b nn:Nat) (D0:DataW H) {R:Value→Option (DataW H × List MemPlace)} (J:List Int→World→Prop)
  (hY:∀ pre x W,J pre W→pre.length < Maps.size D0→YieldAt F (n - 1) Tryz.prog l #[encZ x] W fun e W'=>e=.returned (.bool true)∧J (pre++[x]) W'∧KeepsWalks W W')
  (W:World) (hJ:AbidesFrom W.heap.size J) (hm:W.cell? ⟨Bm,so,none⟩=some (.map (some b))) (wz:W.ownsMap Tryz.prog 3 R b nn D0) (h0:J [] W) :
  CallsIn F n Tryz.prog 378 #[.func (.yield l) #[] #[],.pointer (some ⟨Bm,so,none⟩)] W fun e W'=>(∃ v,e=.returned v)∧∃ ss:List Int,ss.Perm (intKeys D0)∧J ss W':=by
 refine callsIn_of_wp Tryz.func378 rfl h10 ?_ Se
 simp only [Tryz.ntmps378,List.size_toArray,List.length_cons,List.length_nil,Nat.reduceAdd,Nat.reduceSub,Array.replicate_succ,Array.replicate_zero,List.push_toArray,List.append_toArray,List.nil_append,List.cons_append]
 gi_wp2_with (first
  | (gi_at_range; refine wpListIn_range_own _ rfl _ 192 rfl 3 3 (int_keyed Tryz.underlying3) Tryz.underlying192 _ b nn _ rfl wz ?_; intro w0 T6 ZY hs0)
  | gi_in)
 go_frame
 gi_loopw [3] (fun _ wr=>∃ (left:Lit→Bool) (U4:Nat) (ss:List Int),wr.ranges Tryz.prog 3 R b W.heap.size nn D0 left U4∧ss.length+U4≤Maps.size D0∧CollectedI D0 left ss∧J ss wr)
  (fun _ wr=>wr.rangeLeft b W.heap.size)
 case atStart =>
  exact ⟨_,_,[],T6,by simp,CollectedI.start D0,hJ [] W w0 none h0 ZY (fun r e=>by cases e)⟩
 case round =>
  obtain ⟨left,U4,ss,T7,Du,hC,KR⟩:=hrel
  gi_wp2_with (first
   | (gi_at_next; refine wpListIn_next_ranges _ rfl _ rfl 3 (int_keyed Tryz.underlying3) R encZ id (fun key kl hk=>by obtain ⟨x,hx,_⟩:=Maps.keyOf_i64 Tryz.underlying3 hk; exact ⟨x,hx⟩) (fun v _ _=>⟨v,rfl⟩) b W.heap.size nn _ _ _ rfl T7 ?_ ?_)
   | gi_in)
  ·intro oL ZM
   gi_wp2
   go_end0
   exact ⟨⟨_,rfl⟩,ss,hC.perm wz (int_keyed Tryz.underlying3) Tryz.underlying3 ZM,KR⟩
  ·intro x c kl yd yp w2 U3 Uo Ul hv B7 T5 eS ZX hs2 Eb
   obtain ⟨x',ex,rfl,_⟩:=Maps.keyOf_i64 Tryz.underlying3 Uo
   obtain rfl:x=x':=encZ_inj ex
   have hJ2:J ss w2:=hJ ss wr w2 (some W.heap.size) KR ZX (fun r e=>by cases e; exact ⟨Nat.le_refl _,T7.iter_walk⟩)
   obtain ⟨fn,tmps,assign,body,hy,hR⟩:=hY ss x w2 hJ2 (by omega)
   clear hs2
   gi_wp2
   refine hR.mono ?_
   rintro e W3 ⟨rfl,hJ3,ZQ⟩
   gi_wp2
   have PC:=T5.of_walks ZQ
   go_roundw
   case rel=>exact ⟨_,U3,ss++[x],PC,by simp; omega,hC.step Ul B7,hJ3⟩
   case measure=>rw [PC.left_eq,T7.left_eq]; exact eS
theorem Tryz.FT {H:Type} (F:Fence) (n:Nat) (h10:F.fn 378) (Se:F.round=none) (hn:1≤n) (Bm so b nn:Nat) (D0:DataW H) {R:Value→Option (DataW H × List MemPlace)} (w:World) (UN:Bm < w.heap.size)
  (hm:w.cell? ⟨Bm,so,none⟩=some (.map (some b))) (wz:w.ownsMap Tryz.prog 3 R b nn D0) :
  SeqGives F n Tryz.prog 378 #[.pointer (some ⟨Bm,so,none⟩)] encZ (fun ss=>ss.Perm (intKeys D0)) (Maps.size D0) w:=fun l J W hW hJ hY h0=>by
 have PK:W.ownsMap Tryz.prog 3 R b nn D0:=by
  have kV:=wz.lt
  obtain ⟨es,clock,hb,Ft,hs,hD⟩:=wz
  exact ⟨es,clock,(hW.block b kV).trans hb,Ft,hs,hD⟩
 exact Tryz.FR F n h10 Se hn l Bm so b nn D0 J hY W hJ ((hW.cell (p:=⟨Bm,so,none⟩) UN).trans hm) PK h0
theorem Tryz.OW (m:Nat):AnyZI.SortsIn Tryz.prog Tryz.qW Fence.wide m :=
 ⟨fun blk off cap ss W hH UF gB=>callsIn_wide.2 (AnyM.slices_Sort_int Tryz.JZ blk off cap ss W hH UF gB),
  fun p cap W=>callsIn_wide.2 (AnyM.slices_Sort_int_none Tryz.JZ p cap W)⟩
theorem Tryz.zg {H:Type} (Bm so b nn:Nat) (D0:DataW H) {R:Value→Option (DataW H × List MemPlace)} (w:World) (UN:Bm < w.heap.size)
  (hm:w.cell? ⟨Bm,so,none⟩=some (.map (some b))) (wz:w.ownsMap Tryz.prog 3 R b nn D0) (Uk:Maps.size D0≤maxLen) (M5:Maps.size D0 * 8≤140737488355328) :
  Calls Tryz.prog 136 #[.func (.func 378) #[] #[.pointer (some ⟨Bm,so,none⟩)]] w fun e w'=>∃ (v:Value) (ss:List Int),e=.returned v∧ss.Perm (intKeys D0) ∧
   w'.ownsRow w.heap.size 3 1 v ss.length ((ss.mergeSort (fun x y=>decide (x≤y))).map encZ)∧(v=.slice none 0 0↔ss=[])∧Below w.heap.size w w' :=
 (callsIn_wide (n:=5)).1 (AnyZI.sorted_in Tryz.HZ Fence.wide 5 trivial trivial trivial trivial rfl (by omega) (Tryz.OW _) (enters_of Tryz.func188 (by kernel_rfl) rfl) 378 _ trivial (enters_of Tryz.func378 (by kernel_rfl) rfl) _ _ Uk M5 w (Tryz.FT Fence.wide 2 trivial rfl (by omega) Bm so b nn D0 w UN hm wz))
end Go.Proofs
