/- Lemmas. Conditions: their own. -/
import Derived.RangeFuncBox
import Derived.RangeFuncLeaves
import Derived.LoopNIn
import Derived.LoopIn
import Derived.TacticsInMore
import Derived.Test.YtmgahplojkmcaaaGreatFY
set_option linter.all false
namespace Go.Proofs
open Go.RowKit Go.Maps Go.Sort Go.Shelf
section
attribute [local go_sem] Oper.semAt_some
set_option maxRecDepth 100000 in
set_option maxHeartbeats 2000000 in
theorem Tryz.Wc(F:Fence)(n:Nat)(h7:F.fn 174)(hro:F.round=none)(hn:1<=n)(l Bs n₀ b off cap:Nat)(zs:List Int)(hr:zs.length*8<=140737488355328)(hb:b<n₀)(J Jx:List Int->World->Prop)
  (hY:∀pre x W,J pre W->pre.length<zs.length->YieldAt F (n-1) Tryz.prog l #[encZ x] W λe W'=>(e=.returned (.bool true)/\J (pre++[x]) W'/\Below n₀ W W')∨(e=.returned (.bool false)/\Jx (pre++[x]) W'))
  (W:World) (UB:W.cell? ⟨Bs,0,none⟩=some (.slice (some ⟨b,off,none⟩) zs.length cap)) (hc:∀(j:Nat) x,zs[j]?=some x->W.cell? ⟨b,off+j,none⟩=some (encZ x)) (h0:J [] W) :
  CallsIn F n Tryz.prog 174 #[.func (.yield l) #[] #[],.pointer (some ⟨Bs,0,none⟩)] W λe W'=>(∃v,e=.returned v)/\((∃ys,ys=zs/\J ys W')∨∃pre,True/\Jx pre W'):=by
 refine callsIn_of_wp Tryz.func174 rfl h7 ?_ hro;simp only[Tryz.ntmps174,List.size_toArray,List.length_cons,List.length_nil,Nat.reduceAdd,Nat.reduceSub,Array.replicate_succ,Array.replicate_zero,List.push_toArray,List.append_toArray,List.nil_append,List.cons_append];gi_wp2
 gi_loopw [7] (λi wr=>∃k:Nat,k<=zs.length/\i=.int .i64 k/\J (zs.take k) wr/\Below n₀ W wr)
  (λi _=>zs.length-(Go.RowKit.intOf i).toNat)
 case atStart=>exact⟨0,Nat.zero_le _,rfl,h0,Below.refl _ _⟩
 case round =>
  obtain⟨k,hk,rfl,V5,ZM⟩:=hrel;by_cases eB:k<zs.length
  .have hx:=(ZM.cell (p:=⟨b,off+k,none⟩) hb).trans (hc k zs[k] (List.getElem?_eq_getElem eB));have PD:zs.take (k+1)=zs.take k++[zs[k]]:=by rw[List.take_succ,List.getElem?_eq_getElem eB];rfl
   obtain⟨fn,tmps,assign,body,hy,hR⟩:=hY _ zs[k] wr V5 (by rw[List.length_take];omega);gi_wp2;refine hR.mono ?_;rintro e W3 (⟨rfl,hJ3,hk3⟩|⟨rfl,amv⟩)
   .gi_wp2
    go_roundw
    case rel=>exact⟨k+1,by omega,by simp,by rw[PD];exact hJ3,ZM.trans hk3⟩
    case measure=>simp[Go.RowKit.intOf];omega
   .gi_wp2;refine bodyPost_ret (results_none rfl _ _ _) rfl ?_;exact⟨⟨_,rfl⟩,.inr ⟨_,trivial,amv⟩⟩
  .obtain rfl:k=zs.length:=by omega
   gi_wp2;go_end0;exact⟨⟨_,rfl⟩,.inl ⟨_,List.take_length,V5⟩⟩
set_option maxRecDepth 100000 in
set_option maxHeartbeats 1000000 in
theorem Tryz.Rc(F:Fence)(n:Nat)(h7:F.fn 174)(hro:F.round=none)(l Bs cap:Nat)(a:Option Addr)(J:List Int->World->Prop)(W:World)(UB:W.cell? ⟨Bs,0,none⟩=some (.slice a 0 cap))(h0:J [] W):
  CallsIn F n Tryz.prog 174 #[.func (.yield l) #[] #[],.pointer (some ⟨Bs,0,none⟩)] W λe W'=>(∃v,e=.returned v)/\J [] W':=by
 refine callsIn_of_wp Tryz.func174 rfl h7 ?_ hro;simp only[Tryz.ntmps174,List.size_toArray,List.length_cons,List.length_nil,Nat.reduceAdd,Nat.reduceSub,Array.replicate_succ,Array.replicate_zero,List.push_toArray,List.append_toArray,List.nil_append,List.cons_append];gi_wp2
 gi_loopw [7] (λi wr=>i=.int .i64 0/\J [] wr) (λ_ _=>0)
 case atStart=>exact⟨rfl,h0⟩
 case round=>obtain⟨rfl,V5⟩:=hrel;gi_wp2;go_end0;exact⟨⟨_,rfl⟩,V5⟩
def Tryz.Ints(n₀:Nat)(W:World)(sv:Value)(zs:List Int):Prop :=
 (∃a cap,sv=.slice a 0 cap/\zs=[])∨∃b off cap,sv=.slice (some ⟨b,off,none⟩) zs.length cap/\b<n₀/\∀(j:Nat) x,zs[j]?=some x->W.cell? ⟨b,off+j,none⟩=some (encZ x)
theorem Tryz.Ints.below{n₀:Nat}{A B:World}(h:Below n₀ A B){sv:Value}{zs:List Int}:Tryz.Ints n₀ A sv zs->Tryz.Ints n₀ B sv zs
 |.inl e=>.inl e
 |.inr ⟨b,off,cap,e,hb,hc⟩=>.inr ⟨b,off,cap,e,hb,λj x hj=>(h.cell (p:=⟨b,off+j,none⟩) hb).trans (hc j x hj)⟩
theorem Tryz.Ks(F:Fence)(n:Nat)(h7:F.fn 174)(hro:F.round=none)(hn:1<=n)(Bs n₀:Nat)(sv:Value)(zs:List Int)(hr:zs.length*8<=140737488355328)(w:World)(UB:Bs<w.heap.size)(hn₀:n₀<=w.heap.size)
  (hc:w.cell? ⟨Bs,0,none⟩=some sv) (hI:Tryz.Ints n₀ w sv zs) :
  SeqStopsK F n Tryz.prog 174 #[.pointer (some ⟨Bs,0,none⟩)] (λx:Int=>#[encZ x]) (Below n₀) (λys=>ys=zs) (λ_=>True) zs.length w:=λl J Jx W hW _ _ hY h0=>by
 have Bb:=(hW.cell (p:=⟨Bs,0,none⟩) UB).trans hc;rcases hI.below (hW.mono hn₀)with⟨a,cap,rfl,rfl⟩|⟨b,off,cap,rfl,hb,sU⟩
 .exact(Tryz.Rc F n h7 hro l Bs cap a J W Bb h0).mono λe W' ⟨he,hj⟩=>⟨he,.inl ⟨_,rfl,hj⟩⟩
 .exact Tryz.Wc F n h7 hro hn l Bs n₀ b off cap zs hr hb J Jx hY W Bb sU h0
theorem Tryz.abL:(Tryz.prog.info? 3).map (λi=>(i.zero,i.size,i.bytes))=some (some (.int .i64 0),1,8):=by kernel_rfl
set_option maxRecDepth 100000 in
set_option maxHeartbeats 2000000 in
theorem Tryz.Qt(F:Fence)(n:Nat)(h3:F.fn 232)(h5:F.fn 174)(hro:F.round=none)(hn:3<=n)(Bs:Nat)(sv:Value)(zs:List Int)(hm:zs.length<=maxLen)(hr:zs.length*8<=140737488355328)(w:World)(UB:Bs<w.heap.size)
  (hc:w.cell? ⟨Bs,0,none⟩=some sv) (hI:Tryz.Ints w.heap.size w sv zs) :
  CallsIn F n Tryz.prog 232 #[.slice none 0 0,.func (.func 174) #[] #[.pointer (some ⟨Bs,0,none⟩)]] w λe W'=>∃v,e=.returned v/\W'.ownsRow w.heap.size 3 1 v zs.length (zs.map encZ)/\Below w.heap.size w W':=by
 have h1:1<=n:=by omega
 obtain⟨i0,hi,QK,hz1,IW⟩:=info_parts Tryz.abL;refine callsIn_of_wp_marks Tryz.func232 rfl h3 ?_ hro;simp only[Tryz.ntmps232,List.size_toArray,List.length_cons,List.length_nil,Nat.reduceAdd,Nat.reduceSub,Array.replicate_succ,Array.replicate_zero,List.push_toArray,List.append_toArray,List.nil_append,List.cons_append];have hW:Hid (w.cell? ⟨Bs,0,none⟩=some sv):=hc;clear hc;gi_wp2;have bO:=Boxed.new w 42 (.slice none 0 0);have hB0:Below w.heap.size w (w.alloc (.cells #[.slice none 0 0] 42)):=(Below.refl _ w).alloc (Nat.le_refl _) _;refine wpIn_rangeFunc_ownG hro h1 (gf:=174) (lb:=#[.pointer (some ⟨Bs,0,none⟩)]) rfl h5 (enters_of Tryz.func174 (by kernel_rfl) rfl)
  (Tryz.Ks F (n-1) h5 hro (by omega) Bs w.heap.size sv zs hr _ (by simp;omega) (by simp) ((hB0.cell (p:=⟨Bs,0,none⟩) UB).trans hW.out) (hI.below hB0)) belowK_t (belowK_b (by simp)) (Below.refl _ _) (λ_=>rfl)
  (λpre W=>(∃v,Boxed W w.heap.size 42 v/\W.ownsRow w.heap.size 3 1 v pre.length (pre.map encZ)/\True)/\Below w.heap.size w W)
  (λ_ _ _=>False)
  (OwnFrom.and (Own.from (holdsRow_own w.heap.size w.heap.size 42 3 1 (λpre:List Int=>pre.length) (λpre=>pre.map encZ) (λ_ _=>True)) _) (ownFrom_below (Nat.le_refl _) (by simp)))
  (λ_ _ _ _ _ hs _ _=>hs)
  ⟨⟨_,bO,World.ownsRow_nil _ _ _ _,trivial⟩,hB0⟩
  (λx=>{ tmps:=#[.slice none 0 0,.func (.func 174) #[] #[.pointer (some ⟨Bs,0,none⟩)],.pointer (some ⟨w.heap.size,0,none⟩),undef,.slice none 0 0,encZ x,.func (.func 174) #[] #[.pointer (some ⟨Bs,0,none⟩)],encZ x,undef,undef,undef,undef,undef],defers:=[] }) ?assign ?body ?done ?stop
 case assign=>intro l x W K hK;gi_wp2;exact hK
 case body =>
  rintro l pre x W ⟨⟨v,hv,gk,_⟩,hB⟩ eB;have hc:=hv.cell
  gi_wp2_with (gi_at_builtin;refine wpListIn_append_own _ rfl _ _ 42 rfl w.heap.size 3 i0 (.int .i64 0) 1 8 Tryz.underlying42 hi QK hz1 IW rfl (by decide) _ _ _ rfl (gk.alloc _) ⟨W.heap.size,0,none⟩ 1 1 [encZ x] rfl rfl (cell_one_new _ _ _) (by simp[Value.oneCell']) (by omega) (by omega) (by have:=hB.size;simp;omega) ?_;intro v' w1 ZK agA _;obtain⟨g',Ao,rfl⟩:=ownsRow_succ ZK;obtain⟨hv1,hv2,hr2,yT,hb2⟩:=hv.appended (by decide) gk hB.size (Nat.le_refl _) ZK agA;have hc1:=hv1.cell;have hf1:=hv1.frozen)
  exact⟨yT.from _,hb2,⟨_,hv2,by simpa using hr2,trivial⟩,hB.trans hb2⟩
 case done=>rintro D ys W hD rfl ⟨⟨v,hv,gk,_⟩,hB⟩ hK;have hc:=hv.cell;gi_wp2;refine⟨by simp,.inl ⟨_,_,rfl,run_takeDeferred hK,?_⟩⟩;exact⟨_,results_tmp rfl _ _ _,v,rfl,ownsRow_putObj gk _ hK rfl,hB.trans (belowK_b (w:=w) (Nat.le_refl _) W D _ _ (by simp at hD;omega) hK rfl rfl)⟩
 case stop=>rintro D c pre W _ _ h _;exact h.elim
set_option maxRecDepth 100000 in
set_option maxHeartbeats 2000000 in
theorem Tryz.LU(F:Fence)(h2:F.fn 172)(h3:F.fn 232)(h5:F.fn 174)(hro:F.round=none)(Bs:Nat)(sv:Value)(zs:List Int)(hm:zs.length<=maxLen)(hr:zs.length*8<=140737488355328)(w:World)(UB:Bs<w.heap.size)(hc:w.cell? ⟨Bs,0,none⟩=some sv)(hI:Tryz.Ints w.heap.size w sv zs):
  CallsIn F 4 Tryz.prog 172 #[.func (.func 174) #[] #[.pointer (some ⟨Bs,0,none⟩)]] w λe W'=>∃v,e=.returned v/\W'.ownsRow w.heap.size 3 1 v zs.length (zs.map encZ)/\Below w.heap.size w W':=by
 have h1:1<=4:=by omega
 have e3:=enters_of Tryz.func232 (by kernel_rfl) rfl;have ha:=Tryz.Qt F 3 h3 h5 hro (by omega) Bs sv zs hm hr w UB hc hI;clear hc hI;refine callsIn_of_wp Tryz.func172 rfl h2 ?_ hro;simp only[Tryz.ntmps172,List.size_toArray,List.length_cons,List.length_nil,Nat.reduceAdd,Nat.reduceSub,Array.replicate_succ,Array.replicate_zero,List.push_toArray,List.append_toArray,List.nil_append,List.cons_append]
 gi_wp2_with (gi_at_call 232;refine ha.mono ?_;rintro e w' ⟨v,rfl,gk,hb⟩)
 go_ret;exact⟨v,rfl,gk,hb⟩
set_option maxRecDepth 100000 in
set_option maxHeartbeats 2000000 in
theorem Tryz.HO(F:Fence)(h0:F.fn 113)(h2:F.fn 172)(h3:F.fn 232)(h5:F.fn 174)(h6:F.fn 173)(hro:F.round=none)(hS:AnyZI.SortsIn Tryz.prog Tryz.uM F 4)(Bs:Nat)(sv:Value)(zs:List Int)(hm:zs.length<=maxLen)(hr:zs.length*8<=140737488355328)(w:World)(UB:Bs<w.heap.size)(hc:w.cell? ⟨Bs,0,none⟩=some sv)(hI:Tryz.Ints w.heap.size w sv zs):
  CallsIn F 5 Tryz.prog 113 #[.func (.func 174) #[] #[.pointer (some ⟨Bs,0,none⟩)]] w λe W'=>∃v,e=.returned v/\W'.ownsRow w.heap.size 3 1 v zs.length ((zs.mergeSort (λx y=>decide (x<=y))).map encZ)/\Below w.heap.size w W':=by
 have h1:1<=5:=by omega
 have e2:=enters_of Tryz.func172 (by kernel_rfl) rfl;have e6:=enters_of Tryz.func173 (by kernel_rfl) rfl;have nE:=Tryz.LU F h2 h3 h5 hro Bs sv zs hm hr w UB hc hI;clear hc hI;refine callsIn_of_wp Tryz.func113 rfl h0 ?_ hro;simp only[Tryz.ntmps113,List.size_toArray,List.length_cons,List.length_nil,Nat.reduceAdd,Nat.reduceSub,Array.replicate_succ,Array.replicate_zero,List.push_toArray,List.append_toArray,List.nil_append,List.cons_append]
 gi_wp2_with (gi_at_call 172;refine nE.mono ?_;rintro e W ⟨v,rfl,gk,hb⟩)
 rcases gk.2 with⟨rfl,hz⟩|⟨gb,cap,cur,rfl,ZZ,hgb,r1,r2,r3,r4⟩
 .have hss:zs=[]:=List.eq_nil_of_length_eq_zero hz;subst hss
  gi_wp2_with (gi_at_call 173;refine(hS.2 none 0 W).mono ?_;rintro e w' ⟨rfl,rfl⟩)
  go_ret;exact⟨.slice none 0 0,rfl,by simpa using gk,hb⟩
 .have cS:=hS.1 gb 0 cap zs W (holds_of_block_i hgb (by simpa using r4)) (Array.getElem?_eq_some_iff.1 hgb).1 (by omega)
  gi_wp2_with (gi_at_call 173;refine cS.mono ?_;rintro e w' ⟨rfl,nn,os,rfl⟩)
  go_ret;exact⟨_,rfl,ownsRow_sorted_i (by simp) ZZ hgb r1 r2 r3,hb.grown (grownBy_sorted_i _) hb.size (λj hj=>by cases hj;exact ZZ)⟩
theorem Tryz.KC(Bs:Nat)(sv:Value)(zs:List Int)(hm:zs.length<=maxLen)(hr:zs.length*8<=140737488355328)(w:World)(UB:Bs<w.heap.size)(hc:w.cell? ⟨Bs,0,none⟩=some sv)(hI:Tryz.Ints w.heap.size w sv zs):
  Calls Tryz.prog 113 #[.func (.func 174) #[] #[.pointer (some ⟨Bs,0,none⟩)]] w λe W'=>∃v,e=.returned v/\W'.ownsRow w.heap.size 3 1 v zs.length ((zs.mergeSort (λx y=>decide (x<=y))).map encZ)/\Below w.heap.size w W' :=
 (callsIn_wide (n:=5)).1 (Tryz.HO Fence.wide trivial trivial trivial trivial trivial rfl (Tryz.RA 4) Bs sv zs hm hr w UB hc hI)
end
end Go.Proofs
