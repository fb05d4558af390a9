/- Walks: each function returns what its condition asks. Condition: the contracts of its callees, handed in. -/
import Derived.Test.YtojdelnnjhbgbaaZWalksS
set_option linter.all false
namespace Go.Proofs.Ytojdelnnjhbgbaa
open Go Go.Sv
set_option maxHeartbeats 1000000
theorem W54 (N : Nat) (k64 : S64) (k65 : S65) (k66 : S66N N) (k69 : S69) (w0 : World) (χ0 : Nat → Nat) (state : Int) (so : List Api_Pick) (cap1 : Search_seeker) (a1 : Option Addr) (c1 : Nat) (a2 : Option Addr) (c2 : Nat) (a3 : Option Addr) (c3 : Nat) (a4 : Option Addr) (c4 : Nat) (m4 : Nat) (r5 : Nat) (m5 : Nat) (b1 : Nat) (i1 : Nat) (Q : (List Api_Pick) × Bool × Search_seeker → Prop) (hm : VC54 N state so cap1 Q) (h1 : RS tApi_Pick w0 χ0 a1 so c1) (h2 : RS tApi_Row w0 χ0 a2 cap1.o.Rows c2) (h3 : RS tApi_Oper w0 χ0 a3 cap1.l c3) (h4 : OS tBool 4 w0 χ0 m4 a4 cap1.done c4) (h5 : OMS kvSearch_spot tI false w0 χ0 m5 r5 cap1.failed) (hc1 : Cell w0 χ0 b1 i1 118 [.int .i64 cap1.o.States, .int .i64 cap1.o.Kinds, .int .i64 cap1.o.Init, .slice a2 cap1.o.Rows.length c2, .slice a3 cap1.l.length c3, .slice a4 cap1.done.length c4, .map (some r5)]) (hA : Apart [i1, m4, m5]) :
  Ret Try.prog 54 #[.pointer (some ⟨b1, 0, none⟩), .int .i64 state, .slice a1 so.length c1] (pR [i1, m4, m5]) w0 χ0 (fun w χ' v => ∃ r, Q r ∧ ∃ (ra1 : Option Addr) (rc1 : Nat) (ra2 : Option Addr) (rc2 : Nat) (ra3 : Option Addr) (rc3 : Nat) (ra4 : Option Addr) (rc4 : Nat), v = .tuple #[.slice ra1 r.1.length rc1, .bool r.2.1] ∧ RS tApi_Pick w χ' ra1 r.1 rc1 ∧ RS tApi_Row w χ' ra2 r.2.2.o.Rows rc2 ∧ RS tApi_Oper w χ' ra3 r.2.2.l rc3 ∧ OS tBool 4 w χ' m4 ra4 r.2.2.done rc4 ∧ Cell w χ' b1 i1 118 [.int .i64 r.2.2.o.States, .int .i64 r.2.2.o.Kinds, .int .i64 r.2.2.o.Init, .slice ra2 r.2.2.o.Rows.length rc2, .slice ra3 r.2.2.l.length rc3, .slice ra4 r.2.2.done.length rc4, .map (some r5)] ∧ OMS kvSearch_spot tI false w χ' m5 r5 r.2.2.failed) := by
 unfold VC54 at hm
 replace hm := hm (h1.sm kr)
 replace hm := hm (h2.sm kr)
 replace hm := hm (h3.sm kr)
 replace hm := hm (h4.sm kr)
 refine enterR Try.func54 rfl (f0of [(i1, 901), (m4, 2004), (m5, 2005)]) (fun id => (bif Nat.beq id 901 then b1 else 0)) (args := [Pt 901 0, I state, Sl a1 so c1]) (bxs := [(901, (118, [I cap1.o.States, I cap1.o.Kinds, I cap1.o.Init, Sl a2 cap1.o.Rows c2, Sl a3 cap1.l c3, Sl a4 cap1.done c4, V (.map (some r5))]))]) kr rfl (BoxesOK.cons kr (hc1.map (f0of_at 0 hA.1 rfl)) BoxesOK.nil) (f0of_0 (fun q hq => (hA.2 q.1 (List.mem_map.2 ⟨q, hq, rfl⟩)).1)) ?_
 intro a hS hO hM
 have hP : Pin [(901, b1)] (fun id => (bif Nat.beq id 901 then b1 else 0)) := by intro q hq; simp at hq; rcases hq with rfl <;> rfl
 generalize (fun id => (bif Nat.beq id 901 then b1 else 0)) = ρ at hS hP
 clear hc1
 replace h1 := h1.m0 hM
 replace h2 := h2.m0 hM
 replace h3 := h3.m0 hM
 replace h4 := h4.map (f := f0of [(i1, 901), (m4, 2004), (m5, 2005)]) (f0of_at 1 hA.1 rfl) hM
 replace h5 := h5.map (f := f0of [(i1, 901), (m4, 2004), (m5, 2005)]) (f0of_at 2 hA.1 rfl) hM
 clear hM
 refine rM T hS ⟨[(3, Pt 4 0), (4, Pt 5 0), (5, Pt 6 0)], [(4, (101, [Pt 901 0])), (5, (3, [I state])), (6, (84, [Sl a1 so c1])), (901, (118, [I cap1.o.States, I cap1.o.Kinds, I cap1.o.Init, Sl a2 cap1.o.Rows c2, Sl a3 cap1.l c3, Sl a4 cap1.done c4, V (.map (some r5))]))]⟩ fun ρ a w251 χ252 hS hE hr => ?_
 replace hO := hO.mv hE rfl rfl
 replace h1 := h1.mv hE rfl
 replace h2 := h2.mv hE rfl
 replace h3 := h3.mv hE rfl
 replace h4 := h4.mv hE rfl rfl
 replace h5 := h5.mv hE rfl rfl
 replace hP := hP.mv hr kr
 clear hE hr
 refine wseq ?_
 refine regO ?_
 refine oP T hS 1 ⟨[(3, Pt 4 0), (4, Pt 5 0), (5, Pt 6 0), (14, Pt 901 0)], [(4, (101, [Pt 901 0])), (5, (3, [I state])), (6, (84, [Sl a1 so c1])), (901, (118, [I cap1.o.States, I cap1.o.Kinds, I cap1.o.Init, Sl a2 cap1.o.Rows c2, Sl a3 cap1.l c3, Sl a4 cap1.done c4, V (.map (some r5))]))]⟩ fun a hS => ?_
 have hb105 := (hS.cell (id := 901) (t := 118) (cs := [I cap1.o.States, I cap1.o.Kinds, I cap1.o.Init, Sl a2 cap1.o.Rows c2, Sl a3 cap1.l c3, Sl a4 cap1.done c4, V (.map (some r5))]) kr)
 have ho106 := h5
 obtain ⟨hq, hm⟩ := hm
 refine op1 (callR hS kr kr hb64 kr (Ret.unlendR kr (k64 _ (lend 2004 _) cap1 a2 c2 a3 c3 a4 c4 r5 2005 (ρ 901) 901 hq (h2.m0 (M0.lend 2004)) (h3.m0 (M0.lend 2004)) h4.lend (h5.lendK kr) (hb105.lend kr) ⟨by decide, by decide⟩)) ?_)
 intro v101 a w102 χ103 hE hp hS
 clear h5
 replace hO := hO.mv hE rfl rfl
 replace h1 := h1.mv hE rfl
 replace h2 := h2.mv hE rfl
 replace h3 := h3.mv hE rfl
 replace h4 := h4.mv hE rfl rfl
 obtain ⟨hkeep, _, hp⟩ := hp
 obtain ⟨hp, hc107, h108⟩ := hp
 replace hc107 := hc107.back hb105 hkeep
 replace h108 := h108.back ho106 hkeep (fun h => h)
 clear hkeep hb105 ho106
 obtain ⟨r104, hr⟩ : ∃ r, search_seeker_whole cap1 = r := ⟨_, rfl⟩
 replace hm := hm r104 hr
 rw [hr] at hp
 clear hr
 subst hp
 replace hS := hS.addbox (id := 901) (t := 118) (cs := [I cap1.o.States, I cap1.o.Kinds, I cap1.o.Init, Sl a2 cap1.o.Rows c2, Sl a3 cap1.l c3, Sl a4 cap1.done c4, V (.map (some r5))]) kr hc107
 clear hc107
 refine doneK ?_
 refine wcond hS (b := r104) kr (fun hb => ?_) (fun hb => ?_)
 ·replace hm := hm.1 hb
  refine rP T hS ⟨[(6, Sl a1 so c1), (7, B true)], [(901, (118, [I cap1.o.States, I cap1.o.Kinds, I cap1.o.Init, Sl a2 cap1.o.Rows c2, Sl a3 cap1.l c3, Sl a4 cap1.done c4, V (.map (some r5))]))]⟩ fun a hS => ?_
  refine wret ?_
  exact finR T hS hO (fun c h => f0of_zero kr h) (fun c h => f0of_else (l := [(i1, 901), (m4, 2004), (m5, 2005)]) h) (f1of [(i1, 901), (m4, 2004), (m5, 2005)]) rfl (r := [.slice a1 so.length c1, .bool true]) kr (fun χ' hM hC => ⟨(so, true, cap1), hm, a1, c1, a2, c2, a3, c3, a4, c4, rfl, h1.m0 hM, h2.m0 hM, h3.m0 hM, (OS.out (f := (f1of [(i1, 901), (m4, 2004), (m5, 2005)])) h4 hM hC kr), ((hS.cell (id := 901) (t := 118) (cs := [I cap1.o.States, I cap1.o.Kinds, I cap1.o.Init, Sl a2 cap1.o.Rows c2, Sl a3 cap1.l c3, Sl a4 cap1.done c4, V (.map (some r5))]) kr).out (f := (f1of [(i1, 901), (m4, 2004), (m5, 2005)])) hC kr kr (hP.at 0 rfl)), (h108.out (f := (f1of [(i1, 901), (m4, 2004), (m5, 2005)])) hM hC kr kr)⟩)
 replace hm := hm.2 hb
 refine wskip ?_
 refine regO ?_
 refine oP T hS 2 ⟨[(3, Pt 4 0), (4, Pt 5 0), (5, Pt 6 0), (17, Pt 901 0), (18, I state)], [(4, (101, [Pt 901 0])), (5, (3, [I state])), (6, (84, [Sl a1 so c1])), (901, (118, [I cap1.o.States, I cap1.o.Kinds, I cap1.o.Init, Sl a2 cap1.o.Rows c2, Sl a3 cap1.l c3, Sl a4 cap1.done c4, V (.map (some r5))]))]⟩ fun a hS => ?_
 have hb113 := (hS.cell (id := 901) (t := 118) (cs := [I cap1.o.States, I cap1.o.Kinds, I cap1.o.Init, Sl a2 cap1.o.Rows c2, Sl a3 cap1.l c3, Sl a4 cap1.done c4, V (.map (some r5))]) kr)
 have ho114 := h108
 refine op1 (callR hS kr kr hb65 kr (Ret.unlendR kr (k65 _ (lend 2004 _) state cap1 a2 c2 a3 c3 a4 c4 r5 2005 (ρ 901) 901 (h2.m0 (M0.lend 2004)) (h3.m0 (M0.lend 2004)) h4.lend (h108.lendK kr) (hb113.lend kr) ⟨by decide, by decide⟩)) ?_)
 intro v109 a w110 χ111 hE hp hS
 clear h108
 replace hO := hO.mv hE rfl rfl
 replace h1 := h1.mv hE rfl
 replace h2 := h2.mv hE rfl
 replace h3 := h3.mv hE rfl
 replace h4 := h4.mv hE rfl rfl
 obtain ⟨hkeep, _, hp⟩ := hp
 obtain ⟨hp, hc115, h116⟩ := hp
 replace hc115 := hc115.back hb113 hkeep
 replace h116 := h116.back ho114 hkeep (fun h => h)
 clear hkeep hb113 ho114
 obtain ⟨r112, hr⟩ : ∃ r, search_seeker_here state cap1 = r := ⟨_, rfl⟩
 replace hm := hm r112 hr
 rw [hr] at hp
 clear hr
 subst hp
 replace hS := hS.addbox (id := 901) (t := 118) (cs := [I cap1.o.States, I cap1.o.Kinds, I cap1.o.Init, Sl a2 cap1.o.Rows c2, Sl a3 cap1.l c3, Sl a4 cap1.done c4, V (.map (some r5))]) kr hc115
 clear hc115
 refine eM T hS ⟨[(3, Pt 4 0), (4, Pt 5 0), (5, Pt 6 0), (8, Pt 9 0)], [(4, (101, [Pt 901 0])), (5, (3, [I state])), (6, (84, [Sl a1 so c1])), (9, (121, [V (.int .u32 r112.done), I r112.state])), (901, (118, [I cap1.o.States, I cap1.o.Kinds, I cap1.o.Init, Sl a2 cap1.o.Rows c2, Sl a3 cap1.l c3, Sl a4 cap1.done c4, V (.map (some r5))]))]⟩ fun ρ a w249 χ250 hS hE hr => ?_
 replace hO := hO.mv hE rfl rfl
 replace h1 := h1.mv hE rfl
 replace h2 := h2.mv hE rfl
 replace h3 := h3.mv hE rfl
 replace h4 := h4.mv hE rfl rfl
 replace h116 := h116.mv hE rfl rfl
 replace hP := hP.mv hr kr
 clear hE hr
 refine wseq ?_
 refine drawnSX [4, 5, 6, 9, 901] mixed hS ?_
 intro w117 χ118 hS hE hD hH
 replace hO := hO.mv hE rfl rfl
 replace h1 := h1.mv hE rfl
 replace h2 := h2.mv hE rfl
 replace h3 := h3.mv hE rfl
 replace h4 := h4.mv hE rfl rfl
 replace h116 := h116.mv hE rfl rfl
 refine tk T [0, 4, 1, 2, 3] [4, 5, 6, 9, 901] hS hH #[true, true, true, true, true, false, false] 2 ⟨[(3, Pt 4 0), (4, Pt 5 0), (5, Pt 6 0), (8, Pt 9 0), (23, V (.map (some r5))), (24, V (.agg #[.int .u32 r112.done, .int .i64 r112.state]))], [(4, (101, [Pt 901 0])), (5, (3, [I state])), (6, (84, [Sl a1 so c1])), (9, (121, [V (.int .u32 r112.done), I r112.state])), (901, (118, [I cap1.o.States, I cap1.o.Kinds, I cap1.o.Init, Sl a2 cap1.o.Rows c2, Sl a3 cap1.l c3, Sl a4 cap1.done c4, V (.map (some r5))]))]⟩ fun a hS => ?_
 refine only 5 kr (by rfl) (mlookS kvSearch_spot tI false (zv := .int .i64 0) (z := 0) r112 hS kr kr kr kr Try.underlying116 kokSearch_spot kr rfl h116 ?_)
 intro v119 a hv hS
 replace hv : tI.R _ _ [v119] _ := hv
 cases hv
 refine andH (Hold.of hS (bks := [4, 5, 6, 9, 901]) kr hD) ?_
 intro hH
 refine tk T [6] [4, 5, 6, 9, 901] hS hH #[true, true, true, true, true, true, true] 0 ⟨[(3, Pt 4 0), (4, Pt 5 0), (5, Pt 6 0), (8, Pt 9 0), (26, B (decide (((mget cap1.failed r112).getD 0) > 0)))], [(4, (101, [Pt 901 0])), (5, (3, [I state])), (6, (84, [Sl a1 so c1])), (9, (121, [V (.int .u32 r112.done), I r112.state])), (901, (118, [I cap1.o.States, I cap1.o.Kinds, I cap1.o.Init, Sl a2 cap1.o.Rows c2, Sl a3 cap1.l c3, Sl a4 cap1.done c4, V (.map (some r5))]))]⟩ fun a hS => ?_
 refine drawnDone kr ?_
 clear hD hH
 replace hS := hS.sl ⟨[(3, Pt 4 0), (4, Pt 5 0), (5, Pt 6 0), (8, Pt 9 0), (26, B (decide (((mget cap1.failed r112).getD 0) > 0)))], [(4, (101, [Pt 901 0])), (5, (3, [I state])), (6, (84, [Sl a1 so c1])), (9, (121, [V (.int .u32 r112.done), I r112.state])), (901, (118, [I cap1.o.States, I cap1.o.Kinds, I cap1.o.Init, Sl a2 cap1.o.Rows c2, Sl a3 cap1.l c3, Sl a4 cap1.done c4, V (.map (some r5))]))]⟩
 refine wcond hS (b := decide (((mget cap1.failed r112).getD 0) > 0)) kr (fun hb => ?_) (fun hb => ?_)
 ·replace hm := hm.1 hb
  refine rP T hS ⟨[(6, V (.slice none 0 0)), (7, B false)], [(901, (118, [I cap1.o.States, I cap1.o.Kinds, I cap1.o.Init, Sl a2 cap1.o.Rows c2, Sl a3 cap1.l c3, Sl a4 cap1.done c4, V (.map (some r5))]))]⟩ fun a hS => ?_
  refine wret ?_
  exact finR T hS hO (fun c h => f0of_zero kr h) (fun c h => f0of_else (l := [(i1, 901), (m4, 2004), (m5, 2005)]) h) (f1of [(i1, 901), (m4, 2004), (m5, 2005)]) rfl (r := [.slice none 0 0, .bool false]) kr (fun χ' hM hC => ⟨([], false, cap1), hm, none, 0, a2, c2, a3, c3, a4, c4, rfl, RS.empty _ _ _, h2.m0 hM, h3.m0 hM, (OS.out (f := (f1of [(i1, 901), (m4, 2004), (m5, 2005)])) h4 hM hC kr), ((hS.cell (id := 901) (t := 118) (cs := [I cap1.o.States, I cap1.o.Kinds, I cap1.o.Init, Sl a2 cap1.o.Rows c2, Sl a3 cap1.l c3, Sl a4 cap1.done c4, V (.map (some r5))]) kr).out (f := (f1of [(i1, 901), (m4, 2004), (m5, 2005)])) hC kr kr (hP.at 0 rfl)), (h116.out (f := (f1of [(i1, 901), (m4, 2004), (m5, 2005)])) hM hC kr kr)⟩)
 replace hm := hm.2 hb
 refine wskip ?_
 refine rP T hS ⟨[(3, Pt 4 0), (4, Pt 5 0), (8, Pt 9 0), (9, .f (.func 66) [] [.p 4 0, .p 5 0, .p 6 0])], [(4, (101, [Pt 901 0])), (5, (3, [I state])), (6, (84, [Sl a1 so c1])), (9, (121, [V (.int .u32 r112.done), I r112.state])), (901, (118, [I cap1.o.States, I cap1.o.Kinds, I cap1.o.Init, Sl a2 cap1.o.Rows c2, Sl a3 cap1.l c3, Sl a4 cap1.done c4, V (.map (some r5))]))]⟩ fun a hS => ?_
 refine wcut (fun a w => ∃ (ρ : Nat → Nat) (χ : Nat → Nat) (x_120 : Int) (x_121 : Int) (x_122 : Int) (x_123 : List Api_Row) (x_127 : List Api_Oper) (x_131 : List Bool) (x_135 : List (Search_spot × Int)) (a124 : Option Addr) (c125 : Nat) (a128 : Option Addr) (c129 : Nat) (a132 : Option Addr) (c133 : Nat), VC54_J1 N state Q r112 x_120 x_121 x_122 x_123 x_127 x_131 x_135 ∧ St Try.f54.ntmps ⟨[(3, Pt 4 0), (8, Pt 9 0)], [(4, (101, [Pt 901 0])), (9, (121, [V (.int .u32 r112.done), I r112.state])), (901, (118, [I x_120, I x_121, I x_122, Sl a124 x_123 c125, Sl a128 x_127 c129, Sl a132 x_131 c133, V (.map (some r5))]))]⟩ ρ a w χ ∧ OldR (f0of [(i1, 901), (m4, 2004), (m5, 2005)]) w0 χ0 w χ ∧ Pin [(901, b1)] ρ ∧ RS tApi_Row w χ a124 x_123 c125 ∧ RS tApi_Oper w χ a128 x_127 c129 ∧ OS tBool 4 w χ 2004 a132 x_131 c133 ∧ OMS kvSearch_spot tI false w χ 2005 r5 x_135) ?_ ?_
 ·refine drawnSX [4, 5, 6, 9] mixed hS ?_
  intro w178 χ179 hS hE hD hH
  replace hO := hO.mv hE rfl rfl
  replace h1 := h1.mv hE rfl
  replace h2 := h2.mv hE rfl
  replace h3 := h3.mv hE rfl
  replace h4 := h4.mv hE rfl rfl
  replace h116 := h116.mv hE rfl rfl
  refine tk T [0, 4, 8, 9, 15, 1, 5, 10, 2, 6, 11] [4, 5, 6, 9] hS hH #[true, true, true, false, true, true, true, false, true, true, true, true, false, false, false, true] 5 ⟨[(3, Pt 4 0), (8, Pt 9 0), (9, .f (.func 66) [] [.p 4 0, .p 5 0, .p 6 0]), (30, Pt 901 0), (34, Pt 901 4), (36, I state), (39, Pt 901 5), (43, I 0)], [(4, (101, [Pt 901 0])), (5, (3, [I state])), (6, (84, [Sl a1 so c1])), (9, (121, [V (.int .u32 r112.done), I r112.state])), (901, (118, [I cap1.o.States, I cap1.o.Kinds, I cap1.o.Init, Sl a2 cap1.o.Rows c2, Sl a3 cap1.l c3, Sl a4 cap1.done c4, V (.map (some r5))]))]⟩ fun a hS => ?_
  refine drcut (fun a w => ∃ (χ : Nat → Nat), St Try.f54.ntmps ⟨[(3, Pt 4 0), (8, Pt 9 0), (9, .f (.func 66) [] [.p 4 0, .p 5 0, .p 6 0]), (31, V (.agg #[.int .i64 cap1.o.States, .int .i64 cap1.o.Kinds, .int .i64 cap1.o.Init, .slice a2 cap1.o.Rows.length c2])), (35, Sl a3 cap1.l c3), (36, I state), (40, Sl a4 cap1.done c4), (43, I 0)], [(4, (101, [Pt 901 0])), (5, (3, [I state])), (6, (84, [Sl a1 so c1])), (9, (121, [V (.int .u32 r112.done), I r112.state])), (901, (118, [I cap1.o.States, I cap1.o.Kinds, I cap1.o.Init, Sl a2 cap1.o.Rows c2, Sl a3 cap1.l c3, Sl a4 cap1.done c4, V (.map (some r5))]))]⟩ ρ a w χ ∧ OldR (f0of [(i1, 901), (m4, 2004), (m5, 2005)]) w0 χ0 w χ ∧ M0 w178 χ179 w χ ∧ Hold w178 χ179 (filt [4, 5, 6, 9] ⟨[(3, Pt 4 0), (4, Pt 5 0), (8, Pt 9 0), (9, .f (.func 66) [] [.p 4 0, .p 5 0, .p 6 0])], [(4, (101, [Pt 901 0])), (5, (3, [I state])), (6, (84, [Sl a1 so c1])), (9, (121, [V (.int .u32 r112.done), I r112.state])), (901, (118, [I cap1.o.States, I cap1.o.Kinds, I cap1.o.Init, Sl a2 cap1.o.Rows c2, Sl a3 cap1.l c3, Sl a4 cap1.done c4, V (.map (some r5))]))]⟩) ρ w ∧ RS tApi_Row w χ a2 cap1.o.Rows c2 ∧ RS tApi_Oper w χ a3 cap1.l c3 ∧ OS tBool 4 w χ 2004 a4 cap1.done c4 ∧ RS tApi_Pick w χ a1 so c1 ∧ OMS kvSearch_spot tI false w χ 2005 r5 cap1.failed) #[true, true, true, true, true, true, true, true, true, true, true, true, true, false, false, true] 2 ?_ (fun H => ?_)
  ·rintro a w186 ⟨χ185, hS, hO, hD, hH, h180, h181, h182, h183, h184⟩
   obtain ⟨hq, hm⟩ := hm
   refine only 13 kr (by rfl) (call hS kr kr hb69 kr (fun _ _ => rfl) (Ret.unlendO (k69 _ (lend 2004 _) cap1.o cap1.l state cap1.done a2 c2 a3 c3 a4 c4 4193 hq (h180.m0 (M0.lend 2004)) (h181.m0 (M0.lend 2004)) h182.lend)) ?_)
   intro v187 a w188 χ189 hE hp hS
   replace hO := hO.mv hE rfl rfl
   replace hD := hD.ev hE rfl
   replace h180 := h180.mv hE rfl
   replace h181 := h181.mv hE rfl
   replace h182 := h182.mv hE rfl rfl
   replace h183 := h183.mv hE rfl
   replace h184 := h184.mv hE rfl rfl
   obtain ⟨_, hback, hp⟩ := hp
   obtain ⟨a191, c192, hp, h193⟩ := hp
   replace h193 := h193.backO hback kr (fun h => h)
   clear hback
   obtain ⟨r190, hr⟩ : ∃ r, search_Next cap1.o cap1.l state cap1.done = r := ⟨_, rfl⟩
   replace hm := hm r190 hr
   rw [hr] at hp h193
   clear hr
   subst hp
   replace hm := hm (h193.sm kr)
   replace hS := hS.sl ⟨[(3, Pt 4 0), (8, Pt 9 0), (9, .f (.func 66) [] [.p 4 0, .p 5 0, .p 6 0]), (31, V (.agg #[.int .i64 cap1.o.States, .int .i64 cap1.o.Kinds, .int .i64 cap1.o.Init, .slice a2 cap1.o.Rows.length c2])), (35, Sl a3 cap1.l c3), (36, I state), (40, Sl a4 cap1.done c4), (43, I 0), (41, Sl a191 r190 c192)], [(4, (101, [Pt 901 0])), (5, (3, [I state])), (6, (84, [Sl a1 so c1])), (9, (121, [V (.int .u32 r112.done), I r112.state])), (901, (118, [I cap1.o.States, I cap1.o.Kinds, I cap1.o.Init, Sl a2 cap1.o.Rows c2, Sl a3 cap1.l c3, Sl a4 cap1.done c4, V (.map (some r5))]))]⟩
   refine andH (Hold.of hS (bks := [4, 5, 6, 9]) kr hD) ?_
   intro hH
   refine tk T [14] [4, 5, 6, 9] hS hH #[true, true, true, true, true, true, true, true, true, true, true, true, true, true, true, true] 0 ⟨[(3, Pt 4 0), (8, Pt 9 0), (9, .f (.func 66) [] [.p 4 0, .p 5 0, .p 6 0]), (41, Sl a191 r190 c192), (42, I (lN r190)), (43, I 0)], [(4, (101, [Pt 901 0])), (5, (3, [I state])), (6, (84, [Sl a1 so c1])), (9, (121, [V (.int .u32 r112.done), I r112.state])), (901, (118, [I cap1.o.States, I cap1.o.Kinds, I cap1.o.Init, Sl a2 cap1.o.Rows c2, Sl a3 cap1.l c3, Sl a4 cap1.done c4, V (.map (some r5))]))]⟩ fun a hS => ?_
   refine drawnDone kr ?_
   clear hD hH
   replace hS := hS.sl ⟨[(3, Pt 4 0), (8, Pt 9 0), (9, .f (.func 66) [] [.p 4 0, .p 5 0, .p 6 0]), (41, Sl a191 r190 c192), (42, I (lN r190)), (43, I 0)], [(4, (101, [Pt 901 0])), (5, (3, [I state])), (6, (84, [Sl a1 so c1])), (9, (121, [V (.int .u32 r112.done), I r112.state])), (901, (118, [I cap1.o.States, I cap1.o.Kinds, I cap1.o.Init, Sl a2 cap1.o.Rows c2, Sl a3 cap1.l c3, Sl a4 cap1.done c4, V (.map (some r5))]))]⟩
   refine wblock ?_
   obtain ⟨I1, μ1, hm0, hm⟩ := hm
   refine wloop (σ := (List Api_Pick) × Int × Int × Int × Int × (List Api_Row) × (List Api_Oper) × (List Bool) × (List (Search_spot × Int))) (fun s a w => ∃ (ρ : Nat → Nat) (χ : Nat → Nat) (a195 : Option Addr) (c196 : Nat) (a204 : Option Addr) (c205 : Nat) (a208 : Option Addr) (c209 : Nat) (a212 : Option Addr) (c213 : Nat), I1 s.1 s.2.1 s.2.2.1 s.2.2.2.1 s.2.2.2.2.1 s.2.2.2.2.2.1 s.2.2.2.2.2.2.1 s.2.2.2.2.2.2.2.1 s.2.2.2.2.2.2.2.2 ∧ St Try.f54.ntmps ⟨[(3, Pt 4 0), (8, Pt 9 0), (9, .f (.func 66) [] [.p 4 0, .p 5 0, .p 6 0]), (41, Sl a195 s.1 c196), (42, I (lN r190)), (43, I s.2.1)], [(4, (101, [Pt 901 0])), (5, (3, [I state])), (6, (84, [Sl a1 so c1])), (9, (121, [V (.int .u32 r112.done), I r112.state])), (901, (118, [I s.2.2.1, I s.2.2.2.1, I s.2.2.2.2.1, Sl a204 s.2.2.2.2.2.1 c205, Sl a208 s.2.2.2.2.2.2.1 c209, Sl a212 s.2.2.2.2.2.2.2.1 c213, V (.map (some r5))]))]⟩ ρ a w χ ∧ OldR (f0of [(i1, 901), (m4, 2004), (m5, 2005)]) w0 χ0 w χ ∧ Pin [(901, b1)] ρ ∧ OS tApi_Pick 109 w χ 4193 a195 s.1 c196 ∧ RS tApi_Pick w χ a1 so c1 ∧ RS tApi_Row w χ a204 s.2.2.2.2.2.1 c205 ∧ RS tApi_Oper w χ a208 s.2.2.2.2.2.2.1 c209 ∧ OS tBool 4 w χ 2004 a212 s.2.2.2.2.2.2.2.1 c213 ∧ OMS kvSearch_spot tI false w χ 2005 r5 s.2.2.2.2.2.2.2.2) (fun s => μ1 s.1 s.2.1 s.2.2.1 s.2.2.2.1 s.2.2.2.2.1 s.2.2.2.2.2.1 s.2.2.2.2.2.2.1 s.2.2.2.2.2.2.2.1 s.2.2.2.2.2.2.2.2) (⟨r190, 0, cap1.o.States, cap1.o.Kinds, cap1.o.Init, cap1.o.Rows, cap1.l, cap1.done, cap1.failed⟩) ?_ ?_
   ·exact ⟨ρ, _, a191, c192, a2, c2, a3, c3, a4, c4, hm0, hS.sl _, hO, hP, h193, h183, h180, h181, h182, h184⟩
   rintro ⟨x_194, x_198, x_200, x_201, x_202, x_203, x_207, x_211, x_215⟩ a w246 ⟨ρ, χ245, a195, c196, a204, c205, a208, c209, a212, c213, hI, hS, hO, hP, h197, h199, h206, h210, h214, h216⟩
   replace hm := hm x_194 x_198 x_200 x_201 x_202 x_203 x_207 x_211 x_215 hI
   clear hI hm0
   refine rP T hS ⟨[(3, Pt 4 0), (8, Pt 9 0), (9, .f (.func 66) [] [.p 4 0, .p 5 0, .p 6 0]), (41, Sl a195 x_194 c196), (42, I (lN r190)), (43, I x_198), (44, B (decide (x_198 < (lN r190))))], [(4, (101, [Pt 901 0])), (5, (3, [I state])), (6, (84, [Sl a1 so c1])), (9, (121, [V (.int .u32 r112.done), I r112.state])), (901, (118, [I x_200, I x_201, I x_202, Sl a204 x_203 c205, Sl a208 x_207 c209, Sl a212 x_211 c213, V (.map (some r5))]))]⟩ fun a hS => ?_
   refine wseq ?_
   refine wcond hS (b := decide (x_198 < (lN r190))) kr (fun hb => ?_) (fun hb => ?_)
   ·replace hm := hm.1 hb
    refine wskip (wseq ?_)
    refine wblock ?_
    refine regO ?_
    obtain ⟨hq220, hm⟩ := hm
    refine op1 (indexX (E := 109) (k := .i64) T hS kr kr kr kr h197 kr kr hq220.1 hq220.2 ?_)
    intro A217 a h219 h218 hS
    refine op1 (loadAX T hS kr kr kr h218 kr kr ?_)
    intro v221 a hv hS
    subst hv
    refine eM T hS ⟨[(3, Pt 4 0), (8, Pt 9 0), (9, .f (.func 66) [] [.p 4 0, .p 5 0, .p 6 0]), (11, Pt 12 0), (41, Sl a195 x_194 c196), (42, I (lN r190)), (43, I x_198)], [(4, (101, [Pt 901 0])), (5, (3, [I state])), (6, (84, [Sl a1 so c1])), (9, (121, [V (.int .u32 r112.done), I r112.state])), (12, (109, [I ((gi x_194 x_198).Oper), I ((gi x_194 x_198).Result)])), (901, (118, [I x_200, I x_201, I x_202, Sl a204 x_203 c205, Sl a208 x_207 c209, Sl a212 x_211 c213, V (.map (some r5))]))]⟩ fun ρ a w243 χ244 hS hE hr => ?_
    replace hO := hO.mv hE rfl rfl
    replace h197 := h197.mv hE rfl rfl
    replace h199 := h199.mv hE rfl
    replace h206 := h206.mv hE rfl
    replace h210 := h210.mv hE rfl
    replace h214 := h214.mv hE rfl rfl
    replace h216 := h216.mv hE rfl rfl
    replace hP := hP.mv hr kr
    clear hE hr
    refine regO ?_
    refine oP T hS 2 ⟨[(3, Pt 4 0), (8, Pt 9 0), (9, .f (.func 66) [] [.p 4 0, .p 5 0, .p 6 0]), (41, Sl a195 x_194 c196), (42, I (lN r190)), (43, I x_198), (48, .f (.func 66) [] [.p 4 0, .p 5 0, .p 6 0]), (49, V (.agg #[.int .i64 ((gi x_194 x_198).Oper), .int .i64 ((gi x_194 x_198).Result)]))], [(4, (101, [Pt 901 0])), (5, (3, [I state])), (6, (84, [Sl a1 so c1])), (9, (121, [V (.int .u32 r112.done), I r112.state])), (901, (118, [I x_200, I x_201, I x_202, Sl a204 x_203 c205, Sl a208 x_207 c209, Sl a212 x_211 c213, V (.map (some r5))]))]⟩ fun a hS => ?_
    obtain ⟨hq, hm⟩ := hm
    refine op1 (callCR (fi := []) (cp := [.p 4 0, .p 5 0, .p 6 0]) hS kr kr hb66 kr kr (k66 _ _ (gi x_194 x_198) (⟨(⟨x_200, x_201, x_202, x_203⟩ : Api_Object), x_207, x_211, x_215⟩ : Search_seeker) state so a204 c205 a208 c209 a212 c213 2004 r5 2005 a1 c1 (ρ 4) 4 (ρ 901) 901 (ρ 5) 5 (ρ 6) 6 hq.1 hq.2 h206 h210 h214 h216 h199 (hS.cell (id := 4) (t := 101) (cs := [Pt 901 0]) kr) (hS.cell (id := 901) (t := 118) (cs := [I x_200, I x_201, I x_202, Sl a204 x_203 c205, Sl a208 x_207 c209, Sl a212 x_211 c213, V (.map (some r5))]) kr) (hS.cell (id := 5) (t := 3) (cs := [I state]) kr) (hS.cell (id := 6) (t := 84) (cs := [Sl a1 so c1]) kr) ⟨by decide, by decide⟩) ?_)
    intro v222 a w223 χ224 hE hp hS
    clear h216
    clear h214
    replace hO := hO.mv hE rfl rfl
    replace h197 := h197.mv hE rfl rfl
    replace h199 := h199.mv hE rfl
    replace h206 := h206.mv hE rfl
    replace h210 := h210.mv hE rfl
    obtain ⟨a226, c227, a229, c230, a232, c233, a235, c236, hp, h228, h231, h234, h237, hc239, hc240, h238, hc241, hc242⟩ := hp
    obtain ⟨r225, hr⟩ : ∃ r, search_seeker_first_1 (gi x_194 x_198) (⟨(⟨x_200, x_201, x_202, x_203⟩ : Api_Object), x_207, x_211, x_215⟩ : Search_seeker) state so = r := ⟨_, rfl⟩
    replace hm := hm r225 hr
    rw [hr] at hp h228 h231 h234 h237 hc240 h238
    clear hr
    subst hp
    replace hm := hm (h228.sm kr)
    replace hm := hm (h231.sm kr)
    replace hm := hm (h234.sm kr)
    replace hm := hm (h237.sm kr)
    replace hS := hS.addbox (id := 4) (t := 101) (cs := [Pt 901 0]) kr hc239
    replace hS := hS.addbox (id := 901) (t := 118) (cs := [I r225.2.2.o.States, I r225.2.2.o.Kinds, I r225.2.2.o.Init, Sl a229 r225.2.2.o.Rows c230, Sl a232 r225.2.2.l c233, Sl a235 r225.2.2.done c236, V (.map (some r5))]) kr hc240
    replace hS := hS.addbox (id := 5) (t := 3) (cs := [I state]) kr hc241
    replace hS := hS.addbox (id := 6) (t := 84) (cs := [Sl a1 so c1]) kr hc242
    clear hc239 hc240 hc241 hc242
    refine eP T hS ⟨[(3, Pt 4 0), (8, Pt 9 0), (9, .f (.func 66) [] [.p 4 0, .p 5 0, .p 6 0]), (12, Sl a226 r225.1 c227), (13, B r225.2.1), (41, Sl a195 x_194 c196), (42, I (lN r190)), (43, I x_198)], [(4, (101, [Pt 901 0])), (5, (3, [I state])), (6, (84, [Sl a1 so c1])), (9, (121, [V (.int .u32 r112.done), I r112.state])), (901, (118, [I r225.2.2.o.States, I r225.2.2.o.Kinds, I r225.2.2.o.Init, Sl a229 r225.2.2.o.Rows c230, Sl a232 r225.2.2.l c233, Sl a235 r225.2.2.done c236, V (.map (some r5))]))]⟩ fun a hS => ?_
    refine rP T hS ⟨[(3, Pt 4 0), (8, Pt 9 0), (9, .f (.func 66) [] [.p 4 0, .p 5 0, .p 6 0]), (12, Sl a226 r225.1 c227), (41, Sl a195 x_194 c196), (42, I (lN r190)), (43, I x_198), (53, B r225.2.1)], [(4, (101, [Pt 901 0])), (5, (3, [I state])), (6, (84, [Sl a1 so c1])), (9, (121, [V (.int .u32 r112.done), I r112.state])), (901, (118, [I r225.2.2.o.States, I r225.2.2.o.Kinds, I r225.2.2.o.Init, Sl a229 r225.2.2.o.Rows c230, Sl a232 r225.2.2.l c233, Sl a235 r225.2.2.done c236, V (.map (some r5))]))]⟩ fun a hS => ?_
    refine wcond hS (b := r225.2.1) kr (fun hb => ?_) (fun hb => ?_)
    ·replace hm := hm.1 hb
     refine rP T hS ⟨[(6, Sl a226 r225.1 c227), (7, B true)], [(901, (118, [I r225.2.2.o.States, I r225.2.2.o.Kinds, I r225.2.2.o.Init, Sl a229 r225.2.2.o.Rows c230, Sl a232 r225.2.2.l c233, Sl a235 r225.2.2.done c236, V (.map (some r5))]))]⟩ fun a hS => ?_
     refine wret ?_
     exact finR T hS hO (fun c h => f0of_zero kr h) (fun c h => f0of_else (l := [(i1, 901), (m4, 2004), (m5, 2005)]) h) (f1of [(i1, 901), (m4, 2004), (m5, 2005)]) rfl (r := [.slice a226 r225.1.length c227, .bool true]) kr (fun χ' hM hC => ⟨(r225.1, true, r225.2.2), hm, a226, c227, a229, c230, a232, c233, a235, c236, rfl, h228.m0 hM, h231.m0 hM, h234.m0 hM, (OS.out (f := (f1of [(i1, 901), (m4, 2004), (m5, 2005)])) h237 hM hC kr), ((hS.cell (id := 901) (t := 118) (cs := [I r225.2.2.o.States, I r225.2.2.o.Kinds, I r225.2.2.o.Init, Sl a229 r225.2.2.o.Rows c230, Sl a232 r225.2.2.l c233, Sl a235 r225.2.2.done c236, V (.map (some r5))]) kr).out (f := (f1of [(i1, 901), (m4, 2004), (m5, 2005)])) hC kr kr (hP.at 0 rfl)), (h238.out (f := (f1of [(i1, 901), (m4, 2004), (m5, 2005)])) hM hC kr kr)⟩)
    replace hm := hm.2 hb
    refine wskip ?_
    refine region (eP T hS ⟨[(3, Pt 4 0), (8, Pt 9 0), (9, .f (.func 66) [] [.p 4 0, .p 5 0, .p 6 0]), (41, Sl a195 x_194 c196), (42, I (lN r190)), (43, I (wR (x_198 + 1)))], [(4, (101, [Pt 901 0])), (5, (3, [I state])), (6, (84, [Sl a1 so c1])), (9, (121, [V (.int .u32 r112.done), I r112.state])), (901, (118, [I r225.2.2.o.States, I r225.2.2.o.Kinds, I r225.2.2.o.Init, Sl a229 r225.2.2.o.Rows c230, Sl a232 r225.2.2.l c233, Sl a235 r225.2.2.done c236, V (.map (some r5))]))]⟩ fun a hS => ?_)
    exact ⟨⟨x_194, wR (x_198 + 1), r225.2.2.o.States, r225.2.2.o.Kinds, r225.2.2.o.Init, r225.2.2.o.Rows, r225.2.2.l, r225.2.2.done, r225.2.2.failed⟩, ⟨ρ, _, a195, c196, a229, c230, a232, c233, a235, c236, hm.1, hS.sl _, hO, hP, h197, h199, h231, h234, h237, h238⟩, hm.2⟩
   replace hm := hm.2 hb
   refine wexit (by rfl) ?_
   exact ⟨ρ, _, x_200, x_201, x_202, x_203, x_207, x_211, x_215, a204, c205, a208, c209, a212, c213, hm, hS.sl _, hO, hP, h206, h210, h214, h216⟩
  clear hm
  refine anyOf (is := [3, 7, 12]) kr (by decide) ?_
  intro i hi
  rcases mem3 hi with rfl | rfl | rfl
  ·refine oneOp (by rfl) (plain1 T hS kr kr kr (sv := V (.agg #[.int .i64 cap1.o.States, .int .i64 cap1.o.Kinds, .int .i64 cap1.o.Init, .slice a2 cap1.o.Rows.length c2])) kr ?_)
   intro a hS
   refine andH (Hold.of hS (bks := [4, 5, 6, 9]) kr hD) ?_
   intro hH
   refine anyOf (is := [7, 12]) kr (by decide) ?_
   intro i hi
   rcases mem2 hi with rfl | rfl
   ·refine oneOp (by rfl) (plain1 T hS kr kr kr (sv := Sl a3 cap1.l c3) kr ?_)
    intro a hS
    refine andH (Hold.of hS (bks := [4, 5, 6, 9]) kr hD) ?_
    intro hH
    refine only 12 kr (by rfl) (plain1 T hS kr kr kr (sv := Sl a4 cap1.done c4) kr ?_)
    intro a hS
    refine andH (Hold.of hS (bks := [4, 5, 6, 9]) kr hD) ?_
    intro hH
    exact H _ _ ⟨_, hS.sl _, hO, hD, hH, h2, h3, h4, h1, h116⟩
   refine oneOp (by rfl) (plain1 T hS kr kr kr (sv := Sl a4 cap1.done c4) kr ?_)
   intro a hS
   refine andH (Hold.of hS (bks := [4, 5, 6, 9]) kr hD) ?_
   intro hH
   refine only 7 kr (by rfl) (plain1 T hS kr kr kr (sv := Sl a3 cap1.l c3) kr ?_)
   intro a hS
   refine andH (Hold.of hS (bks := [4, 5, 6, 9]) kr hD) ?_
   intro hH
   exact H _ _ ⟨_, hS.sl _, hO, hD, hH, h2, h3, h4, h1, h116⟩
  ·refine oneOp (by rfl) (plain1 T hS kr kr kr (sv := Sl a3 cap1.l c3) kr ?_)
   intro a hS
   refine andH (Hold.of hS (bks := [4, 5, 6, 9]) kr hD) ?_
   intro hH
   refine anyOf (is := [3, 12]) kr (by decide) ?_
   intro i hi
   rcases mem2 hi with rfl | rfl
   ·refine oneOp (by rfl) (plain1 T hS kr kr kr (sv := V (.agg #[.int .i64 cap1.o.States, .int .i64 cap1.o.Kinds, .int .i64 cap1.o.Init, .slice a2 cap1.o.Rows.length c2])) kr ?_)
    intro a hS
    refine andH (Hold.of hS (bks := [4, 5, 6, 9]) kr hD) ?_
    intro hH
    refine only 12 kr (by rfl) (plain1 T hS kr kr kr (sv := Sl a4 cap1.done c4) kr ?_)
    intro a hS
    refine andH (Hold.of hS (bks := [4, 5, 6, 9]) kr hD) ?_
    intro hH
    exact H _ _ ⟨_, hS.sl _, hO, hD, hH, h2, h3, h4, h1, h116⟩
   refine oneOp (by rfl) (plain1 T hS kr kr kr (sv := Sl a4 cap1.done c4) kr ?_)
   intro a hS
   refine andH (Hold.of hS (bks := [4, 5, 6, 9]) kr hD) ?_
   intro hH
   refine only 3 kr (by rfl) (plain1 T hS kr kr kr (sv := V (.agg #[.int .i64 cap1.o.States, .int .i64 cap1.o.Kinds, .int .i64 cap1.o.Init, .slice a2 cap1.o.Rows.length c2])) kr ?_)
   intro a hS
   refine andH (Hold.of hS (bks := [4, 5, 6, 9]) kr hD) ?_
   intro hH
   exact H _ _ ⟨_, hS.sl _, hO, hD, hH, h2, h3, h4, h1, h116⟩
  refine oneOp (by rfl) (plain1 T hS kr kr kr (sv := Sl a4 cap1.done c4) kr ?_)
  intro a hS
  refine andH (Hold.of hS (bks := [4, 5, 6, 9]) kr hD) ?_
  intro hH
  refine anyOf (is := [3, 7]) kr (by decide) ?_
  intro i hi
  rcases mem2 hi with rfl | rfl
  ·refine oneOp (by rfl) (plain1 T hS kr kr kr (sv := V (.agg #[.int .i64 cap1.o.States, .int .i64 cap1.o.Kinds, .int .i64 cap1.o.Init, .slice a2 cap1.o.Rows.length c2])) kr ?_)
   intro a hS
   refine andH (Hold.of hS (bks := [4, 5, 6, 9]) kr hD) ?_
   intro hH
   refine only 7 kr (by rfl) (plain1 T hS kr kr kr (sv := Sl a3 cap1.l c3) kr ?_)
   intro a hS
   refine andH (Hold.of hS (bks := [4, 5, 6, 9]) kr hD) ?_
   intro hH
   exact H _ _ ⟨_, hS.sl _, hO, hD, hH, h2, h3, h4, h1, h116⟩
  refine oneOp (by rfl) (plain1 T hS kr kr kr (sv := Sl a3 cap1.l c3) kr ?_)
  intro a hS
  refine andH (Hold.of hS (bks := [4, 5, 6, 9]) kr hD) ?_
  intro hH
  refine only 3 kr (by rfl) (plain1 T hS kr kr kr (sv := V (.agg #[.int .i64 cap1.o.States, .int .i64 cap1.o.Kinds, .int .i64 cap1.o.Init, .slice a2 cap1.o.Rows.length c2])) kr ?_)
  intro a hS
  refine andH (Hold.of hS (bks := [4, 5, 6, 9]) kr hD) ?_
  intro hH
  exact H _ _ ⟨_, hS.sl _, hO, hD, hH, h2, h3, h4, h1, h116⟩
 rintro a w248 ⟨ρ, χ247, x_120, x_121, x_122, x_123, x_127, x_131, x_135, a124, c125, a128, c129, a132, c133, hm, hS, hO, hP, h126, h130, h134, h136⟩
 unfold VC54_J1 at hm
 refine wcut (fun a w => ∃ (ρ : Nat → Nat) (χ : Nat → Nat) (x_139 : List Bool) (x_143 : List (Search_spot × Int)) (a140 : Option Addr) (c141 : Nat), VC54_J2 N Q x_120 x_121 x_122 x_123 x_127 x_139 x_143 ∧ St Try.f54.ntmps ⟨[], [(901, (118, [I x_120, I x_121, I x_122, Sl a124 x_123 c125, Sl a128 x_127 c129, Sl a140 x_139 c141, V (.map (some r5))]))]⟩ ρ a w χ ∧ OldR (f0of [(i1, 901), (m4, 2004), (m5, 2005)]) w0 χ0 w χ ∧ Pin [(901, b1)] ρ ∧ RS tApi_Row w χ a124 x_123 c125 ∧ RS tApi_Oper w χ a128 x_127 c129 ∧ OS tBool 4 w χ 2004 a140 x_139 c141 ∧ OMS kvSearch_spot tI false w χ 2005 r5 x_143) ?_ ?_
 ·refine regO ?_
  refine oP T hS 2 ⟨[(3, Pt 4 0), (8, Pt 9 0), (56, V (.agg #[.int .u32 r112.done, .int .i64 r112.state])), (57, V (.agg #[.int .u32 0, .int .i64 0]))], [(4, (101, [Pt 901 0])), (9, (121, [V (.int .u32 r112.done), I r112.state])), (901, (118, [I x_120, I x_121, I x_122, Sl a124 x_123 c125, Sl a128 x_127 c129, Sl a132 x_131 c133, V (.map (some r5))]))]⟩ fun a hS => ?_
  refine op1 (structEq (op := .neq) (xs := [.int .u32 r112.done, .int .i64 r112.state]) (ys := [.int .u32 0, .int .i64 0]) (r := (r112.done == 0 && (r112.state == 0 && true))) (b := (!(r112.done == 0 && (r112.state == 0 && true)))) T hS kr kr kr kr kr kr kr kr ?_)
  intro a hS
  refine doneK ?_
  refine wcond hS (b := (!(r112.done == 0 && (r112.state == 0 && true)))) kr (fun hb => ?_) (fun hb => ?_)
  ·replace hm := hm.1 hb
   refine drawnX [4, 9, 901] mixed hS ?_
   intro w145 χ146 hS hE hD hH
   replace hO := hO.mv hE rfl rfl
   replace h126 := h126.mv hE rfl
   replace h130 := h130.mv hE rfl
   replace h134 := h134.mv hE rfl rfl
   replace h136 := h136.mv hE rfl rfl
   refine tk T [0, 4, 1, 2, 3] [4, 9, 901] hS hH #[true, true, true, true, true, false, false, false, false, false] 5 ⟨[(62, V (.map (some r5))), (63, V (.agg #[.int .u32 r112.done, .int .i64 r112.state]))], [(4, (101, [Pt 901 0])), (9, (121, [V (.int .u32 r112.done), I r112.state])), (901, (118, [I x_120, I x_121, I x_122, Sl a124 x_123 c125, Sl a128 x_127 c129, Sl a132 x_131 c133, V (.map (some r5))]))]⟩ fun a hS => ?_
   refine drcut (fun a w => ∃ (χ : Nat → Nat) (b158 : Nat), St Try.f54.ntmps ⟨[(62, V (.map (some r5))), (65, I (wR (((mget x_135 r112).getD 0) + 1))), (67, I ((b158 : Nat) : Int))], [(4, (101, [Pt 901 0])), (9, (121, [V (.int .u32 r112.done), I r112.state])), (901, (118, [I x_120, I x_121, I x_122, Sl a124 x_123 c125, Sl a128 x_127 c129, Sl a132 x_131 c133, V (.map (some r5))]))]⟩ ρ a w χ ∧ OldR (f0of [(i1, 901), (m4, 2004), (m5, 2005)]) w0 χ0 w χ ∧ M0 w145 χ146 w χ ∧ Hold w145 χ146 (filt [4, 9, 901] ⟨[(3, Pt 4 0), (8, Pt 9 0)], [(4, (101, [Pt 901 0])), (9, (121, [V (.int .u32 r112.done), I r112.state])), (901, (118, [I x_120, I x_121, I x_122, Sl a124 x_123 c125, Sl a128 x_127 c129, Sl a132 x_131 c133, V (.map (some r5))]))]⟩) ρ w ∧ OME kvSearch_spot tI false w χ 2005 r5 x_135 r112 0 b158 ∧ RS tApi_Row w χ a124 x_123 c125 ∧ RS tApi_Oper w χ a128 x_127 c129 ∧ OS tBool 4 w χ 2004 a132 x_131 c133) #[true, true, true, true, true, true, true, true, true, false] 1 ?_ (fun H => ?_)
   ·rintro a w173 ⟨χ172, b158, hS, hO, hD, hH, h157, h159, h160, h161⟩
    refine only 9 kr (by rfl) (mclS kvSearch_spot tI false (v := I (wR (((mget x_135 r112).getD 0) + 1))) (u := wR (((mget x_135 r112).getD 0) + 1)) r112 hS kr kr kr kr kokSearch_spot kr h157 (fun _ => rfl) ?_)
    intro a w174 hE h175 hS
    clear h157
    replace hO := hO.mv hE rfl rfl
    replace hD := hD.ev hE rfl
    replace h159 := h159.mv hE rfl
    replace h160 := h160.mv hE rfl
    replace h161 := h161.mv hE rfl rfl
    refine andH (Hold.of hS (bks := [4, 9, 901]) kr hD) ?_
    intro hH
    refine drawnDone kr ?_
    clear hD hH
    replace hS := hS.sl ⟨[], [(901, (118, [I x_120, I x_121, I x_122, Sl a124 x_123 c125, Sl a128 x_127 c129, Sl a132 x_131 c133, V (.map (some r5))]))]⟩
    exact ⟨ρ, _, x_131, mput x_135 r112 (wR (((mget x_135 r112).getD 0) + 1)), a132, c133, hm, hS.sl _, hO, hP, h159, h160, h161, h175⟩
   clear hm
   refine anyOf (is := [5, 7]) kr (by decide) ?_
   intro i hi
   rcases mem2 hi with rfl | rfl
   ·refine oneOp (by rfl) (mlookS kvSearch_spot tI false (zv := .int .i64 0) (z := 0) r112 hS kr kr kr kr Try.underlying116 kokSearch_spot kr rfl h136 ?_)
    intro v162 a hv hS
    replace hv : tI.R _ _ [v162] _ := hv
    cases hv
    refine andH (Hold.of hS (bks := [4, 9, 901]) kr hD) ?_
    intro hH
    refine tk T [6] [4, 9, 901] hS hH #[true, true, true, true, true, true, true, false, false, false] 3 ⟨[(62, V (.map (some r5))), (63, V (.agg #[.int .u32 r112.done, .int .i64 r112.state])), (65, I (wR (((mget x_135 r112).getD 0) + 1)))], [(4, (101, [Pt 901 0])), (9, (121, [V (.int .u32 r112.done), I r112.state])), (901, (118, [I x_120, I x_121, I x_122, Sl a124 x_123 c125, Sl a128 x_127 c129, Sl a132 x_131 c133, V (.map (some r5))]))]⟩ fun a hS => ?_
    refine only 7 kr (by rfl) (mentS kvSearch_spot tI false (zv := .int .i64 0) (z := 0) r112 hS kr kr kr kr Try.underlying116 kokSearch_spot kr rfl kr h136 ?_)
    intro v163 b164 a w165 hE h166 hv hS
    clear h136
    replace hv : tI.R _ _ [v163] _ := hv
    cases hv
    replace hO := hO.mv hE rfl rfl
    replace hD := hD.ev hE rfl
    replace h126 := h126.mv hE rfl
    replace h130 := h130.mv hE rfl
    replace h134 := h134.mv hE rfl rfl
    refine andH (Hold.of hS (bks := [4, 9, 901]) kr hD) ?_
    intro hH
    refine tk T [8] [4, 9, 901] hS hH #[true, true, true, true, true, true, true, true, true, false] 1 ⟨[(62, V (.map (some r5))), (65, I (wR (((mget x_135 r112).getD 0) + 1))), (67, I ((b164 : Nat) : Int))], [(4, (101, [Pt 901 0])), (9, (121, [V (.int .u32 r112.done), I r112.state])), (901, (118, [I x_120, I x_121, I x_122, Sl a124 x_123 c125, Sl a128 x_127 c129, Sl a132 x_131 c133, V (.map (some r5))]))]⟩ fun a hS => ?_
    exact H _ _ ⟨_, b164, hS.sl _, hO, hD, hH, h166, h126, h130, h134⟩
   refine oneOp (by rfl) (mentS kvSearch_spot tI false (zv := .int .i64 0) (z := 0) r112 hS kr kr kr kr Try.underlying116 kokSearch_spot kr rfl kr h136 ?_)
   intro v167 b168 a w169 hE h170 hv hS
   clear h136
   replace hv : tI.R _ _ [v167] _ := hv
   cases hv
   replace hO := hO.mv hE rfl rfl
   replace hD := hD.ev hE rfl
   replace h126 := h126.mv hE rfl
   replace h130 := h130.mv hE rfl
   replace h134 := h134.mv hE rfl rfl
   refine andH (Hold.of hS (bks := [4, 9, 901]) kr hD) ?_
   intro hH
   refine tk T [8] [4, 9, 901] hS hH #[true, true, true, true, true, false, false, true, true, false] 3 ⟨[(62, V (.map (some r5))), (63, V (.agg #[.int .u32 r112.done, .int .i64 r112.state])), (67, I ((b168 : Nat) : Int))], [(4, (101, [Pt 901 0])), (9, (121, [V (.int .u32 r112.done), I r112.state])), (901, (118, [I x_120, I x_121, I x_122, Sl a124 x_123 c125, Sl a128 x_127 c129, Sl a132 x_131 c133, V (.map (some r5))]))]⟩ fun a hS => ?_
   refine only 5 kr (by rfl) (mlookE kvSearch_spot tI false r112 hS kr kr kr kr Try.underlying116 kokSearch_spot h170 ?_)
   intro v171 a hv hS
   replace hv : tI.R _ _ [v171] _ := hv
   cases hv
   refine andH (Hold.of hS (bks := [4, 9, 901]) kr hD) ?_
   intro hH
   refine tk T [6] [4, 9, 901] hS hH #[true, true, true, true, true, true, true, true, true, false] 1 ⟨[(62, V (.map (some r5))), (65, I (wR (((mget x_135 r112).getD 0) + 1))), (67, I ((b168 : Nat) : Int))], [(4, (101, [Pt 901 0])), (9, (121, [V (.int .u32 r112.done), I r112.state])), (901, (118, [I x_120, I x_121, I x_122, Sl a124 x_123 c125, Sl a128 x_127 c129, Sl a132 x_131 c133, V (.map (some r5))]))]⟩ fun a hS => ?_
   exact H _ _ ⟨_, b168, hS.sl _, hO, hD, hH, h170, h126, h130, h134⟩
  replace hm := hm.2 hb
  refine wskip ?_
  exact ⟨ρ, _, x_131, x_135, a132, c133, hm, hS.sl _, hO, hP, h126, h130, h134, h136⟩
 rintro a w177 ⟨ρ, χ176, x_139, x_143, a140, c141, hm, hS, hO, hP, h137, h138, h142, h144⟩
 unfold VC54_J2 at hm
 refine rP T hS ⟨[(6, V (.slice none 0 0)), (7, B false)], [(901, (118, [I x_120, I x_121, I x_122, Sl a124 x_123 c125, Sl a128 x_127 c129, Sl a140 x_139 c141, V (.map (some r5))]))]⟩ fun a hS => ?_
 refine wret ?_
 exact finR T hS hO (fun c h => f0of_zero kr h) (fun c h => f0of_else (l := [(i1, 901), (m4, 2004), (m5, 2005)]) h) (f1of [(i1, 901), (m4, 2004), (m5, 2005)]) rfl (r := [.slice none 0 0, .bool false]) kr (fun χ' hM hC => ⟨([], false, (⟨(⟨x_120, x_121, x_122, x_123⟩ : Api_Object), x_127, x_139, x_143⟩ : Search_seeker)), hm, none, 0, a124, c125, a128, c129, a140, c141, rfl, RS.empty _ _ _, h137.m0 hM, h138.m0 hM, (OS.out (f := (f1of [(i1, 901), (m4, 2004), (m5, 2005)])) h142 hM hC kr), ((hS.cell (id := 901) (t := 118) (cs := [I x_120, I x_121, I x_122, Sl a124 x_123 c125, Sl a128 x_127 c129, Sl a140 x_139 c141, V (.map (some r5))]) kr).out (f := (f1of [(i1, 901), (m4, 2004), (m5, 2005)])) hC kr kr (hP.at 0 rfl)), (h144.out (f := (f1of [(i1, 901), (m4, 2004), (m5, 2005)])) hM hC kr kr)⟩)
theorem C54 (N : Nat) (k64 : S64) (k65 : S65) (k66 : S66N N) (k69 : S69) (v : ∀ (state : Int) (so : List Api_Pick) (cap1 : Search_seeker), preFi state so cap1 → mFirst state so cap1 < N + 1 → VC54 N state so cap1 (fun r => r = search_seeker_first state so cap1)) : S54N (N + 1) := by
 intro w χ state so cap1 a1 c1 a2 c2 a3 c3 a4 c4 m4 r5 m5  b1 i1 hp hms h1 h2 h3 h4 h5 hc1 hA
 refine (W54 N k64 k65 k66 k69 w χ state so cap1 a1 c1 a2 c2 a3 c3 a4 c4 m4 r5 m5  b1 i1 _ (v state so cap1 hp hms) h1 h2 h3 h4 h5 hc1 hA).mono ?_
 rintro _ _ _ _ ⟨r, rfl, h⟩
 exact h
theorem W53 (w0 : World) (χ0 : Nat → Nat) (o_ : Api_Object) (l_ : List Api_Oper) (a1 : Option Addr) (c1 : Nat) (a2 : Option Addr) (c2 : Nat) (col1 : Nat) (col2 : Nat) (col3 : Nat) (Q : Search_seeker → Prop) (hm : VC53 o_ l_ Q) (h1 : RS tApi_Row w0 χ0 a1 o_.Rows c1) (h2 : RS tApi_Oper w0 χ0 a2 l_ c2) :
  Ret Try.prog 53 #[.agg #[.int .i64 o_.States, .int .i64 o_.Kinds, .int .i64 o_.Init, .slice a1 o_.Rows.length c1], .slice a2 l_.length c2] xnone w0 χ0 (fun w χ' v => ∃ r, Q r ∧ ∃ (ra1 : Option Addr) (rc1 : Nat) (ra2 : Option Addr) (rc2 : Nat) (ra3 : Option Addr) (rc3 : Nat) (rr4 : Nat) (rb1 : Nat), v = .pointer (some ⟨rb1, 0, none⟩) ∧ RS tApi_Row w χ' ra1 r.o.Rows rc1 ∧ RS tApi_Oper w χ' ra2 r.l rc2 ∧ OS tBool 4 w χ' col1 ra3 r.done rc3 ∧ Cell w χ' rb1 col3 118 [.int .i64 r.o.States, .int .i64 r.o.Kinds, .int .i64 r.o.Init, .slice ra1 r.o.Rows.length rc1, .slice ra2 r.l.length rc2, .slice ra3 r.done.length rc3, .map (some rr4)] ∧ OMS kvSearch_spot tI false w χ' col2 rr4 r.failed) := by
 unfold VC53 at hm
 replace hm := hm (h1.sm kr)
 replace hm := hm (h2.sm kr)
 refine enter Try.func53 rfl (vals := [.agg #[.int .i64 o_.States, .int .i64 o_.Kinds, .int .i64 o_.Init, .slice a1 o_.Rows.length c1], .slice a2 l_.length c2]) kr ?_
 intro ρ a hS hO hM
 replace h1 := h1.m0 hM
 replace h2 := h2.m0 hM
 clear hM
 refine rM T hS ⟨[(1, Sl a2 l_ c2), (2, Pt 3 0)], [(3, (24, [I o_.States, I o_.Kinds, I o_.Init, Sl a1 o_.Rows c1]))]⟩ fun ρ a w147 χ148 hS hE hr => ?_
 replace hO := hO.mv hE rfl rfl
 replace h1 := h1.mv hE rfl
 replace h2 := h2.mv hE rfl
 clear hE hr
 refine drawnSX [3] mixed hS ?_
 intro w101 χ102 hS hE hD hH
 replace hO := hO.mv hE rfl rfl
 replace h1 := h1.mv hE rfl
 replace h2 := h2.mv hE rfl
 refine tk T [0, 1, 2, 3] [3] hS hH #[true, true, true, true, false, false, false, false, false] 5 ⟨[(5, V (.agg #[.int .i64 o_.States, .int .i64 o_.Kinds, .int .i64 o_.Init, .slice a1 o_.Rows.length c1])), (6, Sl a2 l_ c2), (8, I (lN l_))], [(3, (24, [I o_.States, I o_.Kinds, I o_.Init, Sl a1 o_.Rows c1]))]⟩ fun a hS => ?_
 obtain ⟨hgq4, hm⟩ := hm
 refine drcut (fun a w => ∃ (χ : Nat → Nat) (a122 : Option Addr) (c123 : Nat) (r124 : Nat), St Try.f53.ntmps ⟨[(11, V (.agg #[.int .i64 o_.States, .int .i64 o_.Kinds, .int .i64 o_.Init, .slice a1 o_.Rows.length c1, .slice a2 l_.length c2, .slice a122 (List.replicate (lN l_).toNat (false : Bool)).length c123, .map (some r124)]))], [(3, (24, [I o_.States, I o_.Kinds, I o_.Init, Sl a1 o_.Rows c1]))]⟩ ρ a w χ ∧ Old w0 χ0 w χ ∧ M0 w101 χ102 w χ ∧ Hold w101 χ102 (filt [3] ⟨[(1, Sl a2 l_ c2), (2, Pt 3 0)], [(3, (24, [I o_.States, I o_.Kinds, I o_.Init, Sl a1 o_.Rows c1]))]⟩) ρ w ∧ RS tApi_Row w χ a1 o_.Rows c1 ∧ RS tApi_Oper w χ a2 l_ c2 ∧ OS tBool 4 w χ 1010 a122 (List.replicate (lN l_).toNat (false : Bool)) c123 ∧ OMS kvSearch_spot tI false w χ 1011 r124 ([] : List (Search_spot × Int))) #[true, true, true, true, true, true, true, false, false] 2 ?_ (fun H => ?_)
 ·rintro a w143 ⟨χ142, a122, c123, r124, hS, hO, hD, hH, h119, h120, h121, h125⟩
  clear hgq4
  replace hS := hS.sl ⟨[(11, V (.agg #[.int .i64 o_.States, .int .i64 o_.Kinds, .int .i64 o_.Init, .slice a1 o_.Rows.length c1, .slice a2 l_.length c2, .slice a122 (List.replicate (lN l_).toNat (false : Bool)).length c123, .map (some r124)]))], [(3, (24, [I o_.States, I o_.Kinds, I o_.Init, Sl a1 o_.Rows c1]))]⟩
  refine only 7 kr (by rfl) (boxB1 (cs := #[.int .i64 o_.States, .int .i64 o_.Kinds, .int .i64 o_.Init, .slice a1 o_.Rows.length c1, .slice a2 l_.length c2, .slice a122 (List.replicate (lN l_).toNat (false : Bool)).length c123, .map (some r124)]) hS kr kr kr kr (sy' := ⟨[(12, Pt 13 0), (11, V (.agg #[.int .i64 o_.States, .int .i64 o_.Kinds, .int .i64 o_.Init, .slice a1 o_.Rows.length c1, .slice a2 l_.length c2, .slice a122 (List.replicate (lN l_).toNat (false : Bool)).length c123, .map (some r124)]))], [(13, (118, [I o_.States, I o_.Kinds, I o_.Init, Sl a1 o_.Rows c1, Sl a2 l_ c2, Sl a122 (List.replicate (lN l_).toNat (false : Bool)) c123, V (.map (some r124))])), (3, (24, [I o_.States, I o_.Kinds, I o_.Init, Sl a1 o_.Rows c1]))]⟩) kr ?_)
  intro ρ a w144 χ145 hS hE hr146
  replace hO := hO.mv hE rfl rfl
  replace hD := hD.ev hE rfl
  replace h119 := h119.mv hE rfl
  replace h120 := h120.mv hE rfl
  replace h121 := h121.mv hE rfl rfl
  replace h125 := h125.mv hE rfl rfl
  replace hS := hS.sl ⟨[(11, V (.agg #[.int .i64 o_.States, .int .i64 o_.Kinds, .int .i64 o_.Init, .slice a1 o_.Rows.length c1, .slice a2 l_.length c2, .slice a122 (List.replicate (lN l_).toNat (false : Bool)).length c123, .map (some r124)])), (12, Pt 13 0)], [(3, (24, [I o_.States, I o_.Kinds, I o_.Init, Sl a1 o_.Rows c1])), (13, (118, [I o_.States, I o_.Kinds, I o_.Init, Sl a1 o_.Rows c1, Sl a2 l_ c2, Sl a122 (List.replicate (lN l_).toNat (false : Bool)) c123, V (.map (some r124))]))]⟩
  refine andH ((Hold.of hS (bks := [3]) kr hD).rho hr146 kr) ?_
  intro hH
  refine takeZ T hr146 kr [8] [3] [4] hS kr kr kr hH (listed' := #[true, true, true, true, true, true, true, true, true]) (fuel := 0) (sy' := ⟨[(4, Pt 13 0)], [(3, (24, [I o_.States, I o_.Kinds, I o_.Init, Sl a1 o_.Rows c1])), (13, (118, [I o_.States, I o_.Kinds, I o_.Init, Sl a1 o_.Rows c1, Sl a2 l_ c2, Sl a122 (List.replicate (lN l_).toNat (false : Bool)) c123, V (.map (some r124))]))]⟩) kr (by rfl) ?_
  intro a hS
  refine drawnDone kr ?_
  clear hD hH
  replace hS := hS.sl ⟨[(4, Pt 13 0)], [(13, (118, [I o_.States, I o_.Kinds, I o_.Init, Sl a1 o_.Rows c1, Sl a2 l_ c2, Sl a122 (List.replicate (lN l_).toNat (false : Bool)) c123, V (.map (some r124))]))]⟩
  refine wret ?_
  exact fin T hS hO (fun c => (bif Nat.beq c 13 then col3 else (bif Nat.beq c 1011 then col2 else (bif Nat.beq c 1010 then col1 else c)))) rfl (r := [.pointer (some ⟨ρ 13, 0, none⟩)]) kr (fun χ' hM hC => ⟨(⟨o_, l_, List.replicate (lN l_).toNat (false : Bool), ([] : List (Search_spot × Int))⟩ : Search_seeker), hm, a1, c1, a2, c2, a122, c123, r124, (ρ 13), rfl, h119.m0 hM, h120.m0 hM, (OS.out (f := (fun c => (bif Nat.beq c 13 then col3 else (bif Nat.beq c 1011 then col2 else (bif Nat.beq c 1010 then col1 else c))))) h121 hM hC kr), ((hS.cell (id := 13) (t := 118) (cs := [I o_.States, I o_.Kinds, I o_.Init, Sl a1 o_.Rows c1, Sl a2 l_ c2, Sl a122 (List.replicate (lN l_).toNat (false : Bool)) c123, V (.map (some r124))]) kr).out (f := (fun c => (bif Nat.beq c 13 then col3 else (bif Nat.beq c 1011 then col2 else (bif Nat.beq c 1010 then col1 else c))))) hC kr kr rfl), (h125.out (f := (fun c => (bif Nat.beq c 13 then col3 else (bif Nat.beq c 1011 then col2 else (bif Nat.beq c 1010 then col1 else c))))) hM hC kr kr)⟩)
 clear hm
 refine anyOf (is := [4, 5]) kr (by decide) ?_
 intro i hi
 rcases mem2 hi with rfl | rfl
 ·have hq := hgq4
  refine oneOp (by rfl) (make (E := 4) (kl := .i64) (kc := .i64) (col := 1010) (T := tBool) T false hS kr kr kr kr kr kr hq.1 hq.2.1 (by have := hq.2.2; have e_ : ((tBool.bytes : Nat) : Int) = 1 := rfl; rw [e_]; omega) (by have := hq.2.2; omega) (fun _ _ => rfl) ?_)
  intro b126 a w127 χ128 hE h129 hN hS
  clear hq hN
  replace hO := hO.mv hE rfl rfl
  replace hD := hD.ev hE rfl
  replace h1 := h1.mv hE rfl
  replace h2 := h2.mv hE rfl
  replace hS := hS.conv (t := 9) (y := .slice (some ⟨b126, 0, none⟩) (List.replicate (lN l_).toNat (false : Bool)).length (lN l_).toNat) kr (by rw [List.length_replicate])
  refine andH (Hold.of hS (bks := [3]) kr hD) ?_
  intro hH
  refine only 5 kr (by rfl) (mkmapS kvSearch_spot tI false 1011 hS kr kr ?_)
  intro r130 a w131 χ132 hE h133 hS
  replace hO := hO.mv hE rfl rfl
  replace hD := hD.ev hE rfl
  replace h1 := h1.mv hE rfl
  replace h2 := h2.mv hE rfl
  replace h129 := h129.mv hE rfl rfl
  refine andH (Hold.of hS (bks := [3]) kr hD) ?_
  intro hH
  refine tk T [6] [3] hS hH #[true, true, true, true, true, true, true, false, false] 2 ⟨[(11, V (.agg #[.int .i64 o_.States, .int .i64 o_.Kinds, .int .i64 o_.Init, .slice a1 o_.Rows.length c1, .slice a2 l_.length c2, .slice (some ⟨b126, 0, none⟩) (List.replicate (lN l_).toNat (false : Bool)).length (lN l_).toNat, .map (some r130)]))], [(3, (24, [I o_.States, I o_.Kinds, I o_.Init, Sl a1 o_.Rows c1]))]⟩ fun a hS => ?_
  exact H _ _ ⟨_, (some ⟨b126, 0, none⟩), (lN l_).toNat, r130, hS.sl _, hO, hD, hH, h1, h2, h129, h133⟩
 refine oneOp (by rfl) (mkmapS kvSearch_spot tI false 1011 hS kr kr ?_)
 intro r134 a w135 χ136 hE h137 hS
 replace hO := hO.mv hE rfl rfl
 replace hD := hD.ev hE rfl
 replace h1 := h1.mv hE rfl
 replace h2 := h2.mv hE rfl
 refine andH (Hold.of hS (bks := [3]) kr hD) ?_
 intro hH
 have hq := hgq4
 refine only 4 kr (by rfl) (make (E := 4) (kl := .i64) (kc := .i64) (col := 1010) (T := tBool) T false hS kr kr kr kr kr kr hq.1 hq.2.1 (by have := hq.2.2; have e_ : ((tBool.bytes : Nat) : Int) = 1 := rfl; rw [e_]; omega) (by have := hq.2.2; omega) (fun _ _ => rfl) ?_)
 intro b138 a w139 χ140 hE h141 hN hS
 clear hq hN
 replace hO := hO.mv hE rfl rfl
 replace hD := hD.ev hE rfl
 replace h1 := h1.mv hE rfl
 replace h2 := h2.mv hE rfl
 replace h137 := h137.mv hE rfl rfl
 replace hS := hS.conv (t := 9) (y := .slice (some ⟨b138, 0, none⟩) (List.replicate (lN l_).toNat (false : Bool)).length (lN l_).toNat) kr (by rw [List.length_replicate])
 refine andH (Hold.of hS (bks := [3]) kr hD) ?_
 intro hH
 refine tk T [6] [3] hS hH #[true, true, true, true, true, true, true, false, false] 2 ⟨[(11, V (.agg #[.int .i64 o_.States, .int .i64 o_.Kinds, .int .i64 o_.Init, .slice a1 o_.Rows.length c1, .slice a2 l_.length c2, .slice (some ⟨b138, 0, none⟩) (List.replicate (lN l_).toNat (false : Bool)).length (lN l_).toNat, .map (some r134)]))], [(3, (24, [I o_.States, I o_.Kinds, I o_.Init, Sl a1 o_.Rows c1]))]⟩ fun a hS => ?_
 exact H _ _ ⟨_, (some ⟨b138, 0, none⟩), (lN l_).toNat, r134, hS.sl _, hO, hD, hH, h1, h2, h141, h137⟩
theorem C53 (v : ∀ (o_ : Api_Object) (l_ : List Api_Oper), preBg o_ l_ → VC53 o_ l_ (fun r => r = search_begin o_ l_)) : S53 := by
 intro w χ o_ l_ a1 c1 a2 c2 col1 col2 col3  hp h1 h2
 refine (W53 w χ o_ l_ a1 c1 a2 c2 col1 col2 col3  _ (v o_ l_ hp) h1 h2).mono ?_
 rintro _ _ _ _ ⟨r, rfl, h⟩
 exact h
theorem W40 (k52 : S52) (k53 : S53) (k54 : S54) (k55 : S55) (w0 : World) (χ0 : Nat → Nat) (o_ : Api_Object) (l_ : List Api_Oper) (a1 : Option Addr) (c1 : Nat) (a2 : Option Addr) (c2 : Nat) (Q : (List Api_Pick) × Int → Prop) (hm : VC40 o_ l_ Q) (h1 : RS tApi_Row w0 χ0 a1 o_.Rows c1) (h2 : RS tApi_Oper w0 χ0 a2 l_ c2) :
  Ret Try.prog 40 #[.agg #[.int .i64 o_.States, .int .i64 o_.Kinds, .int .i64 o_.Init, .slice a1 o_.Rows.length c1], .slice a2 l_.length c2] xnone w0 χ0 (fun w χ' v => ∃ r, Q r ∧ ∃ (ra1 : Option Addr) (rc1 : Nat), v = .tuple #[.slice ra1 r.1.length rc1, .int .i64 r.2] ∧ RS tApi_Pick w χ' ra1 r.1 rc1) := by
 unfold VC40 at hm
 replace hm := hm (h1.sm kr)
 replace hm := hm (h2.sm kr)
 refine enter Try.func40 rfl (vals := [.agg #[.int .i64 o_.States, .int .i64 o_.Kinds, .int .i64 o_.Init, .slice a1 o_.Rows.length c1], .slice a2 l_.length c2]) kr ?_
 intro ρ a hS hO hM
 replace h1 := h1.m0 hM
 replace h2 := h2.m0 hM
 clear hM
 refine rM T hS ⟨[(1, Sl a2 l_ c2), (2, Pt 3 0)], [(3, (24, [I o_.States, I o_.Kinds, I o_.Init, Sl a1 o_.Rows c1]))]⟩ fun ρ a w151 χ152 hS hE hr => ?_
 replace hO := hO.mv hE rfl rfl
 replace h1 := h1.mv hE rfl
 replace h2 := h2.mv hE rfl
 clear hE hr
 refine wseq ?_
 refine regO ?_
 refine oP T hS 2 ⟨[(1, Sl a2 l_ c2), (2, Pt 3 0), (9, V (.agg #[.int .i64 o_.States, .int .i64 o_.Kinds, .int .i64 o_.Init, .slice a1 o_.Rows.length c1])), (10, Sl a2 l_ c2)], [(3, (24, [I o_.States, I o_.Kinds, I o_.Init, Sl a1 o_.Rows c1]))]⟩ fun a hS => ?_
 obtain ⟨hq, hm⟩ := hm
 refine op1 (call hS kr kr hb52 kr (fun _ _ => rfl) (k52 _ _ o_ l_ 20 a1 c1 a2 c2 hq h1 h2) ?_)
 intro v101 a w102 χ103 hE hp hS
 replace hO := hO.mv hE rfl rfl
 replace h1 := h1.mv hE rfl
 replace h2 := h2.mv hE rfl
 obtain ⟨r104, hr⟩ : ∃ r, search_check o_ l_ 20 = r := ⟨_, rfl⟩
 replace hm := hm r104 hr
 rw [hr] at hp
 clear hr
 subst hp
 refine eP T hS ⟨[(1, Sl a2 l_ c2), (2, Pt 3 0), (6, I r104)], [(3, (24, [I o_.States, I o_.Kinds, I o_.Init, Sl a1 o_.Rows c1]))]⟩ fun a hS => ?_
 refine rP T hS ⟨[(1, Sl a2 l_ c2), (2, Pt 3 0), (6, I r104), (13, B (r104 != 0))], [(3, (24, [I o_.States, I o_.Kinds, I o_.Init, Sl a1 o_.Rows c1]))]⟩ fun a hS => ?_
 refine wcond hS (b := (r104 != 0)) kr (fun hb => ?_) (fun hb => ?_)
 ·replace hm := hm.1 hb
  refine rP T hS ⟨[(4, V (.slice none 0 0)), (5, I r104)], []⟩ fun a hS => ?_
  refine wret ?_
  exact fin T hS hO (fun c => c) rfl (r := [.slice none 0 0, .int .i64 r104]) kr (fun χ' hM hC => ⟨([], r104), hm, none, 0, rfl, RS.empty _ _ _⟩)
 replace hm := hm.2 hb
 refine wskip ?_
 refine drawnSX [3] mixed hS ?_
 intro w105 χ106 hS hE hD hH
 replace hO := hO.mv hE rfl rfl
 replace h1 := h1.mv hE rfl
 replace h2 := h2.mv hE rfl
 refine tk T [0, 1, 3, 4] [3] hS hH #[true, true, false, true, true, false, false, false, false, false, false] 7 ⟨[(1, Sl a2 l_ c2), (2, Pt 3 0), (16, V (.agg #[.int .i64 o_.States, .int .i64 o_.Kinds, .int .i64 o_.Init, .slice a1 o_.Rows.length c1])), (17, Sl a2 l_ c2), (20, I o_.Init)], [(3, (24, [I o_.States, I o_.Kinds, I o_.Init, Sl a1 o_.Rows c1]))]⟩ fun a hS => ?_
 obtain ⟨hq, hm⟩ := hm
 refine only 2 kr (by rfl) (call hS kr kr hb53 kr (fun _ _ => rfl) (k53 _ _ o_ l_ a1 c1 a2 c2 4119 2121 702 hq h1 h2) ?_)
 intro v107 a w108 χ109 hE hp hS
 replace hO := hO.mv hE rfl rfl
 replace hD := hD.ev hE rfl
 replace h1 := h1.mv hE rfl
 replace h2 := h2.mv hE rfl
 obtain ⟨a111, c112, a114, c115, a117, c118, r121, b122, hp, h113, h116, h119, hc123, h120⟩ := hp
 obtain ⟨r110, hr⟩ : ∃ r, search_begin o_ l_ = r := ⟨_, rfl⟩
 replace hm := hm r110 hr
 rw [hr] at h113 h116 h119 hc123 h120
 clear hr
 subst hp
 replace hm := hm (h113.sm kr)
 replace hm := hm (h116.sm kr)
 replace hm := hm (h119.sm kr)
 replace hS := hS.newbox (id := 702) (t := 118) (cs := [I r110.o.States, I r110.o.Kinds, I r110.o.Init, Sl a111 r110.o.Rows c112, Sl a114 r110.l c115, Sl a117 r110.done c118, V (.map (some r121))]) kr kr hc123 rfl
 replace hS := hS.convS (t := 18) (x := V (.pointer (some ⟨b122, 0, none⟩))) (y := Pt 702 0) kr rfl
 have hr124 : ∀ id, id ≠ 702 → (upd ρ 702 b122) id = ρ id := fun id h => upd_ne _ h
 generalize (upd ρ 702 b122) = ρ at hS hr124
 clear hc123
 replace hS := hS.sl ⟨[(1, Sl a2 l_ c2), (2, Pt 3 0), (16, V (.agg #[.int .i64 o_.States, .int .i64 o_.Kinds, .int .i64 o_.Init, .slice a1 o_.Rows.length c1])), (17, Sl a2 l_ c2), (20, I o_.Init), (18, Pt 702 0)], [(3, (24, [I o_.States, I o_.Kinds, I o_.Init, Sl a1 o_.Rows c1])), (702, (118, [I r110.o.States, I r110.o.Kinds, I r110.o.Init, Sl a111 r110.o.Rows c112, Sl a114 r110.l c115, Sl a117 r110.done c118, V (.map (some r121))]))]⟩
 refine andH ((Hold.of hS (bks := [3]) kr hD).rho hr124 kr) ?_
 intro hH
 obtain ⟨hq, hm⟩ := hm
 refine only 5 kr (by rfl) (callR hS kr kr hb54 kr (k54 _ _ o_.Init [] r110 none 0 a111 c112 a114 c115 a117 c118 4119 r121 2121 (ρ 702) 702 hq (RS.empty _ _ _) h113 h116 h119 h120 (hS.cell (id := 702) (t := 118) (cs := [I r110.o.States, I r110.o.Kinds, I r110.o.Init, Sl a111 r110.o.Rows c112, Sl a114 r110.l c115, Sl a117 r110.done c118, V (.map (some r121))]) kr) ⟨by decide, by decide⟩) ?_)
 intro v125 a w126 χ127 hE hp hS
 clear h120
 clear h119
 replace hO := hO.mv hE rfl rfl
 replace hD := hD.ev hE rfl
 replace h1 := h1.mv hE rfl
 replace h2 := h2.mv hE rfl
 replace h113 := h113.mv hE rfl
 replace h116 := h116.mv hE rfl
 obtain ⟨a129, c130, a132, c133, a135, c136, a138, c139, hp, h131, h134, h137, h140, hc142, h141⟩ := hp
 obtain ⟨r128, hr⟩ : ∃ r, search_seeker_first o_.Init [] r110 = r := ⟨_, rfl⟩
 replace hm := hm r128 hr
 rw [hr] at hp h131 h134 h137 h140 hc142 h141
 clear hr
 subst hp
 replace hm := hm (h131.sm kr)
 replace hm := hm (h134.sm kr)
 replace hm := hm (h137.sm kr)
 replace hm := hm (h140.sm kr)
 replace hS := hS.addbox (id := 702) (t := 118) (cs := [I r128.2.2.o.States, I r128.2.2.o.Kinds, I r128.2.2.o.Init, Sl a132 r128.2.2.o.Rows c133, Sl a135 r128.2.2.l c136, Sl a138 r128.2.2.done c139, V (.map (some r121))]) kr hc142
 clear hc142
 replace hS := hS.sl ⟨[(1, Sl a2 l_ c2), (2, Pt 3 0), (16, V (.agg #[.int .i64 o_.States, .int .i64 o_.Kinds, .int .i64 o_.Init, .slice a1 o_.Rows.length c1])), (17, Sl a2 l_ c2), (20, I o_.Init), (18, Pt 702 0), (21, V (.tuple #[.slice a129 r128.1.length c130, .bool r128.2.1]))], [(3, (24, [I o_.States, I o_.Kinds, I o_.Init, Sl a1 o_.Rows c1])), (702, (118, [I r128.2.2.o.States, I r128.2.2.o.Kinds, I r128.2.2.o.Init, Sl a132 r128.2.2.o.Rows c133, Sl a135 r128.2.2.l c136, Sl a138 r128.2.2.done c139, V (.map (some r121))]))]⟩
 refine andH ((Hold.of hS (bks := [3]) kr hD).rho hr124 kr) ?_
 intro hH
 refine takeZ T hr124 kr [6, 7, 8, 9, 10] [3] [1, 2, 7, 8] hS kr kr kr hH (listed' := #[true, true, true, true, true, true, true, true, true, true, true]) (fuel := 0) (sy' := ⟨[(1, Sl a2 l_ c2), (2, Pt 3 0), (7, Sl a129 r128.1 c130), (8, B r128.2.1)], [(3, (24, [I o_.States, I o_.Kinds, I o_.Init, Sl a1 o_.Rows c1])), (702, (118, [I r128.2.2.o.States, I r128.2.2.o.Kinds, I r128.2.2.o.Init, Sl a132 r128.2.2.o.Rows c133, Sl a135 r128.2.2.l c136, Sl a138 r128.2.2.done c139, V (.map (some r121))]))]⟩) kr (by rfl) ?_
 intro a hS
 refine drawnDone kr ?_
 clear hD hH
 replace hS := hS.sl ⟨[(1, Sl a2 l_ c2), (2, Pt 3 0), (7, Sl a129 r128.1 c130), (8, B r128.2.1)], [(3, (24, [I o_.States, I o_.Kinds, I o_.Init, Sl a1 o_.Rows c1]))]⟩
 refine wseq ?_
 refine wcut (fun a w => ∃ (ρ : Nat → Nat) (χ : Nat → Nat) (x_144 : Bool), VC40_J1 Q r128 x_144 ∧ St Try.f40.ntmps ⟨[(7, Sl a129 r128.1 c130), (32, B x_144)], []⟩ ρ a w χ ∧ Old w0 χ0 w χ ∧ RS tApi_Pick w χ a129 r128.1 c130) ?_ ?_
 ·refine region ?_
  refine oP T hS 3 ⟨[(1, Sl a2 l_ c2), (2, Pt 3 0), (7, Sl a129 r128.1 c130), (26, B (!r128.2.1))], [(3, (24, [I o_.States, I o_.Kinds, I o_.Init, Sl a1 o_.Rows c1]))]⟩ fun a hS => ?_
  rcases Bool.eq_false_or_eq_true (!r128.2.1) with hb | hb
  ·replace hS := hS.lit (t := 26) kr hb
   replace hm := hm.1 hb
   refine eP T hS ⟨[(7, Sl a129 r128.1 c130), (32, B true)], []⟩ fun a hS => ?_
   exact ⟨ρ, _, true, hm, hS.sl _, hO, h131⟩
  replace hS := hS.lit (t := 26) kr hb
  replace hm := hm.2 hb
  refine oP T hS 3 ⟨[(7, Sl a129 r128.1 c130), (26, B false), (27, V (.agg #[.int .i64 o_.States, .int .i64 o_.Kinds, .int .i64 o_.Init, .slice a1 o_.Rows.length c1])), (28, Sl a2 l_ c2), (29, Sl a129 r128.1 c130)], []⟩ fun a hS => ?_
  obtain ⟨hq, hm⟩ := hm
  refine op1 (call hS kr kr hb55 kr (fun _ _ => rfl) (k55 _ _ o_ l_ r128.1 a1 c1 a2 c2 a129 c130 hq h1 h2 h131) ?_)
  intro v145 a w146 χ147 hE hp hS
  replace hO := hO.mv hE rfl rfl
  replace h1 := h1.mv hE rfl
  replace h2 := h2.mv hE rfl
  replace h131 := h131.mv hE rfl
  obtain ⟨r148, hr⟩ : ∃ r, witness_Is o_ l_ r128.1 = r := ⟨_, rfl⟩
  replace hm := hm r148 hr
  rw [hr] at hp
  clear hr
  subst hp
  refine eP T hS ⟨[(7, Sl a129 r128.1 c130), (32, B (!r148))], []⟩ fun a hS => ?_
  exact ⟨ρ, _, (!r148), hm, hS.sl _, hO, h131⟩
 rintro a w150 ⟨ρ, χ149, x_144, hm, hS, hO, h143⟩
 unfold VC40_J1 at hm
 refine wcond hS (b := x_144) kr (fun hb => ?_) (fun hb => ?_)
 ·replace hm := hm.1 hb
  refine rP T hS ⟨[(4, V (.slice none 0 0)), (5, I 41)], []⟩ fun a hS => ?_
  refine wret ?_
  exact fin T hS hO (fun c => c) rfl (r := [.slice none 0 0, .int .i64 41]) kr (fun χ' hM hC => ⟨([], 41), hm, none, 0, rfl, RS.empty _ _ _⟩)
 replace hm := hm.2 hb
 refine wskip ?_
 refine rP T hS ⟨[(4, Sl a129 r128.1 c130), (5, I 0)], []⟩ fun a hS => ?_
 refine wret ?_
 exact fin T hS hO (fun c => c) rfl (r := [.slice a129 r128.1.length c130, .int .i64 0]) kr (fun χ' hM hC => ⟨(r128.1, 0), hm, a129, c130, rfl, h143.m0 hM⟩)
theorem C40 (k52 : S52) (k53 : S53) (k54 : S54) (k55 : S55) (v : ∀ (o_ : Api_Object) (l_ : List Api_Oper), preSe o_ l_ → VC40 o_ l_ (fun r => r = search_Search o_ l_)) : S40 := by
 intro w χ o_ l_ a1 c1 a2 c2   hp h1 h2
 refine (W40 k52 k53 k54 k55 w χ o_ l_ a1 c1 a2 c2   _ (v o_ l_ hp) h1 h2).mono ?_
 rintro _ _ _ _ ⟨r, rfl, h⟩
 exact h
theorem W25 (k40 : S40) (w0 : World) (χ0 : Nat → Nat) (o_ : Api_Object) (l_ : List Api_Oper) (a1 : Option Addr) (c1 : Nat) (a2 : Option Addr) (c2 : Nat) (Q : Bool × Int → Prop) (hm : VC25 o_ l_ Q) (h1 : RS tApi_Row w0 χ0 a1 o_.Rows c1) (h2 : RS tApi_Oper w0 χ0 a2 l_ c2) :
  Ret Try.prog 25 #[.agg #[.int .i64 o_.States, .int .i64 o_.Kinds, .int .i64 o_.Init, .slice a1 o_.Rows.length c1], .slice a2 l_.length c2] xnone w0 χ0 (fun w χ' v => ∃ r, Q r ∧ v = .tuple #[.bool r.1, .int .i64 r.2]) := by
 unfold VC25 at hm
 replace hm := hm (h1.sm kr)
 replace hm := hm (h2.sm kr)
 refine enter Try.func25 rfl (vals := [.agg #[.int .i64 o_.States, .int .i64 o_.Kinds, .int .i64 o_.Init, .slice a1 o_.Rows.length c1], .slice a2 l_.length c2]) kr ?_
 intro ρ a hS hO hM
 replace h1 := h1.m0 hM
 replace h2 := h2.m0 hM
 clear hM
 refine rM T hS ⟨[(1, Sl a2 l_ c2), (2, Pt 3 0)], [(3, (24, [I o_.States, I o_.Kinds, I o_.Init, Sl a1 o_.Rows c1]))]⟩ fun ρ a w108 χ109 hS hE hr => ?_
 replace hO := hO.mv hE rfl rfl
 replace h1 := h1.mv hE rfl
 replace h2 := h2.mv hE rfl
 clear hE hr
 refine regO ?_
 refine oP T hS 2 ⟨[(9, V (.agg #[.int .i64 o_.States, .int .i64 o_.Kinds, .int .i64 o_.Init, .slice a1 o_.Rows.length c1])), (10, Sl a2 l_ c2)], []⟩ fun a hS => ?_
 obtain ⟨hq, hm⟩ := hm
 refine op1 (call hS kr kr hb40 kr (fun _ _ => rfl) (k40 _ _ o_ l_ a1 c1 a2 c2 hq h1 h2) ?_)
 intro v101 a w102 χ103 hE hp hS
 replace hO := hO.mv hE rfl rfl
 replace h1 := h1.mv hE rfl
 replace h2 := h2.mv hE rfl
 obtain ⟨a105, c106, hp, h107⟩ := hp
 obtain ⟨r104, hr⟩ : ∃ r, search_Search o_ l_ = r := ⟨_, rfl⟩
 replace hm := hm r104 hr
 rw [hr] at hp h107
 clear hr
 subst hp
 replace hm := hm (h107.sm kr)
 refine eP T hS ⟨[(7, I r104.2)], []⟩ fun a hS => ?_
 refine wseq (rP T hS ⟨[(7, I r104.2), (15, B (r104.2 == 41))], []⟩ fun a hS => ?_)
 refine wcond hS (b := (r104.2 == 41)) kr (fun hb => ?_) (fun hb => ?_)
 ·replace hm := hm.1 hb
  refine rP T hS ⟨[(4, B false), (5, I 0)], []⟩ fun a hS => ?_
  refine wret ?_
  exact fin T hS hO (fun c => c) rfl (r := [.bool false, .int .i64 0]) kr (fun χ' hM hC => ⟨(false, 0), hm, rfl⟩)
 replace hm := hm.2 hb
 refine wskip ?_
 refine rP T hS ⟨[(4, B (r104.2 == 0)), (5, I r104.2)], []⟩ fun a hS => ?_
 refine wret ?_
 exact fin T hS hO (fun c => c) rfl (r := [.bool (r104.2 == 0), .int .i64 r104.2]) kr (fun χ' hM hC => ⟨((r104.2 == 0), r104.2), hm, rfl⟩)
theorem C25 (k40 : S40) (v : ∀ (o_ : Api_Object) (l_ : List Api_Oper), preSe o_ l_ → VC25 o_ l_ (fun r => r = search_Lin o_ l_)) : S25 := by
 intro w χ o_ l_ a1 c1 a2 c2   hp h1 h2
 refine (W25 k40 w χ o_ l_ a1 c1 a2 c2   _ (v o_ l_ hp) h1 h2).mono ?_
 rintro _ _ _ _ ⟨r, rfl, h⟩
 exact h
theorem W37 (w0 : World) (χ0 : Nat → Nat) (x_ : Api_Event) (Q : Int → Prop) (hm : VC37 x_ Q) :
  Ret Try.prog 37 #[.agg #[.int .i64 x_.What, .int .i64 x_.Prc, .int .i64 x_.N]] xnone w0 χ0 (fun w χ' v => ∃ r, Q r ∧ v = .int .i64 r) := by
 unfold VC37 at hm
 refine enter Try.func37 rfl (vals := [.agg #[.int .i64 x_.What, .int .i64 x_.Prc, .int .i64 x_.N]]) kr ?_
 intro ρ a hS hO hM
 clear hM
 refine rM T hS ⟨[(1, Pt 2 0)], [(2, (54, [I x_.What, I x_.Prc, I x_.N]))]⟩ fun ρ a w101 χ102 hS hE hr => ?_
 replace hO := hO.mv hE rfl rfl
 clear hE hr
 refine wseq ?_
 refine wblock ?_
 refine rP T hS ⟨[(1, Pt 2 0), (3, B ((x_.What != 1) && (x_.What != 2)))], [(2, (54, [I x_.What, I x_.Prc, I x_.N]))]⟩ (sp := [7]) fun a hS => ?_
 refine wcond hS (b := ((x_.What != 1) && (x_.What != 2))) kr (fun hb => ?_) (fun hb => ?_)
 ·replace hm := hm.1 hb
  refine rP T hS ⟨[(2, I 8)], []⟩ fun a hS => ?_
  refine wret ?_
  exact fin T hS hO (fun c => c) rfl (r := [.int .i64 8]) kr (fun χ' hM hC => ⟨8, hm, rfl⟩)
 replace hm := hm.2 hb
 refine rP T hS ⟨[(1, Pt 2 0), (12, B ((decide (x_.Prc < 1)) || (decide (x_.Prc > 1000))))], [(2, (54, [I x_.What, I x_.Prc, I x_.N]))]⟩ (sp := [16]) fun a hS => ?_
 refine wcond hS (b := ((decide (x_.Prc < 1)) || (decide (x_.Prc > 1000)))) kr (fun hb => ?_) (fun hb => ?_)
 ·replace hm := hm.1 hb
  refine rP T hS ⟨[(2, I 2)], []⟩ fun a hS => ?_
  refine wret ?_
  exact fin T hS hO (fun c => c) rfl (r := [.int .i64 2]) kr (fun χ' hM hC => ⟨2, hm, rfl⟩)
 replace hm := hm.2 hb
 refine rP T hS ⟨[(1, Pt 2 0), (21, B ((x_.What == 1) && ((decide (x_.N < 0)) || (decide (x_.N ≥ 64)))))], [(2, (54, [I x_.What, I x_.Prc, I x_.N]))]⟩ (sp := [25, 29]) fun a hS => ?_
 refine wcond hS (b := ((x_.What == 1) && ((decide (x_.N < 0)) || (decide (x_.N ≥ 64))))) kr (fun hb => ?_) (fun hb => ?_)
 ·replace hm := hm.1 hb
  refine rP T hS ⟨[(2, I 31)], []⟩ fun a hS => ?_
  refine wret ?_
  exact fin T hS hO (fun c => c) rfl (r := [.int .i64 31]) kr (fun χ' hM hC => ⟨31, hm, rfl⟩)
 replace hm := hm.2 hb
 refine rP T hS ⟨[(35, B ((x_.What == 2) && ((decide (x_.N < 0)) || (decide (x_.N > 1000000)))))], []⟩ (sp := [39, 43]) fun a hS => ?_
 refine wcond hS (b := ((x_.What == 2) && ((decide (x_.N < 0)) || (decide (x_.N > 1000000))))) kr (fun hb => ?_) (fun hb => ?_)
 ·replace hm := hm.1 hb
  refine rP T hS ⟨[(2, I 7)], []⟩ fun a hS => ?_
  refine wret ?_
  exact fin T hS hO (fun c => c) rfl (r := [.int .i64 7]) kr (fun χ' hM hC => ⟨7, hm, rfl⟩)
 replace hm := hm.2 hb
 refine wskip ?_
 refine rP T hS ⟨[(2, I 0)], []⟩ fun a hS => ?_
 refine wret ?_
 exact fin T hS hO (fun c => c) rfl (r := [.int .i64 0]) kr (fun χ' hM hC => ⟨0, hm, rfl⟩)
theorem C37 (v : ∀ (x_ : Api_Event), VC37 x_ (fun r => r = event_alone x_)) : S37 := by
 intro w χ x_    
 refine (W37 w χ x_    _ (v x_)).mono ?_
 rintro _ _ _ _ ⟨r, rfl, h⟩
 exact h
theorem W23 (k37 : S37) (w0 : World) (χ0 : Nat → Nat) (l_ : List Api_Event) (a1 : Option Addr) (c1 : Nat) (Q : Int × Int → Prop) (hm : VC23 l_ Q) (h1 : RS tApi_Event w0 χ0 a1 l_ c1) :
  Ret Try.prog 23 #[.slice a1 l_.length c1] xnone w0 χ0 (fun w χ' v => ∃ r, Q r ∧ v = .tuple #[.int .i64 r.1, .int .i64 r.2]) := by
 unfold VC23 at hm
 replace hm := hm (h1.sm kr)
 refine enter Try.func23 rfl (vals := [.slice a1 l_.length c1]) kr ?_
 intro ρ a hS hO hM
 replace h1 := h1.m0 hM
 clear hM
 refine rP T hS ⟨[(0, Sl a1 l_ c1)], []⟩ fun a hS => ?_
 refine wseq (rP T hS ⟨[(0, Sl a1 l_ c1), (10, B (decide ((lN l_) > 10000)))], []⟩ fun a hS => ?_)
 refine wcond hS (b := decide ((lN l_) > 10000)) kr (fun hb => ?_) (fun hb => ?_)
 ·replace hm := hm.1 hb
  refine rP T hS ⟨[(2, I 0), (3, I 3)], []⟩ fun a hS => ?_
  refine wret ?_
  exact fin T hS hO (fun c => c) rfl (r := [.int .i64 0, .int .i64 3]) kr (fun χ' hM hC => ⟨(0, 3), hm, rfl⟩)
 replace hm := hm.2 hb
 refine wskip ?_
 refine regO ?_
 refine op1 (mkmap kI tI false 1012 hS kr kr ?_)
 intro r101 a w102 χ103 hE h104 hS
 replace hO := hO.mv hE rfl rfl
 replace h1 := h1.mv hE rfl
 refine eP T hS ⟨[(0, Sl a1 l_ c1), (4, V (.map (some r101)))], []⟩ fun a hS => ?_
 refine wcut (fun a w => ∃ (ρ : Nat → Nat) (χ : Nat → Nat), VC23_J1 l_ Q ∧ St Try.f23.ntmps ⟨[(0, Sl a1 l_ c1)], []⟩ ρ a w χ ∧ Old w0 χ0 w χ ∧ RS tApi_Event w χ a1 l_ c1) ?_ ?_
 ·refine rP T hS ⟨[(0, Sl a1 l_ c1), (4, V (.map (some r101))), (12, Sl a1 l_ c1), (13, I (lN l_)), (14, I 0)], []⟩ fun a hS => ?_
  refine wblock ?_
  obtain ⟨I1, μ1, hm0, hm⟩ := hm
  refine wloop (σ := (List (Int × Int)) × Int) (fun s a w => ∃ (ρ : Nat → Nat) (χ : Nat → Nat), I1 s.1 s.2 ∧ St Try.f23.ntmps ⟨[(0, Sl a1 l_ c1), (4, V (.map (some r101))), (12, Sl a1 l_ c1), (13, I (lN l_)), (14, I s.2)], []⟩ ρ a w χ ∧ Old w0 χ0 w χ ∧ RS tApi_Event w χ a1 l_ c1 ∧ OM kI tI false w χ 1012 r101 s.1 ∧ RS tApi_Event w χ a1 l_ c1) (fun s => μ1 s.1 s.2) (⟨([] : List (Int × Int)), 0⟩) ?_ ?_
  ·exact ⟨ρ, _, hm0, hS.sl _, hO, h1, h104, h1⟩
  rintro ⟨open_107, x_110⟩ a w124 ⟨ρ, χ123, hI, hS, hO, h106, h108, h109⟩
  replace hm := hm open_107 x_110 hI
  clear hI hm0
  refine rP T hS ⟨[(0, Sl a1 l_ c1), (4, V (.map (some r101))), (12, Sl a1 l_ c1), (13, I (lN l_)), (14, I x_110), (15, B (decide (x_110 < (lN l_))))], []⟩ fun a hS => ?_
  refine wseq ?_
  refine wcond hS (b := decide (x_110 < (lN l_))) kr (fun hb => ?_) (fun hb => ?_)
  ·replace hm := hm.1 hb
   refine wskip (wseq ?_)
   refine wblock ?_
   refine regO ?_
   refine oP T hS 1 ⟨[(0, Sl a1 l_ c1), (4, V (.map (some r101))), (12, Sl a1 l_ c1), (13, I (lN l_)), (14, I x_110), (16, I x_110)], []⟩ fun a hS => ?_
   obtain ⟨hq, hm⟩ := hm
   refine op1 (index (e := 54) (k := .i64) T hS kr kr kr kr h109 kr kr hq.1 hq.2 ?_)
   intro A111 a h112 hS
   refine op1 (loadA T hS kr kr kr h112 kr kr ?_)
   intro v113 a hv hS
   subst hv
   refine eM T hS ⟨[(0, Sl a1 l_ c1), (4, V (.map (some r101))), (5, I x_110), (6, Pt 7 0), (12, Sl a1 l_ c1), (13, I (lN l_)), (14, I x_110)], [(7, (54, [I ((gi l_ x_110).What), I ((gi l_ x_110).Prc), I ((gi l_ x_110).N)]))]⟩ fun ρ a w121 χ122 hS hE hr => ?_
   replace hO := hO.mv hE rfl rfl
   replace h106 := h106.mv hE rfl
   replace h108 := h108.mv hE rfl rfl
   replace h109 := h109.mv hE rfl
   clear hE hr
   refine wseq ?_
   refine regO ?_
   refine oP T hS 1 ⟨[(0, Sl a1 l_ c1), (4, V (.map (some r101))), (5, I x_110), (6, Pt 7 0), (12, Sl a1 l_ c1), (13, I (lN l_)), (14, I x_110), (19, V (.agg #[.int .i64 ((gi l_ x_110).What), .int .i64 ((gi l_ x_110).Prc), .int .i64 ((gi l_ x_110).N)]))], [(7, (54, [I ((gi l_ x_110).What), I ((gi l_ x_110).Prc), I ((gi l_ x_110).N)]))]⟩ fun a hS => ?_
   refine op1 (call hS kr kr hb37 kr (fun _ _ => rfl) (k37 _ _ (gi l_ x_110)) ?_)
   intro v114 a w115 χ116 hE hp hS
   replace hO := hO.mv hE rfl rfl
   replace h106 := h106.mv hE rfl
   replace h108 := h108.mv hE rfl rfl
   replace h109 := h109.mv hE rfl
   obtain ⟨r117, hr⟩ : ∃ r, event_alone (gi l_ x_110) = r := ⟨_, rfl⟩
   replace hm := hm r117 hr
   rw [hr] at hp
   clear hr
   subst hp
   refine eP T hS ⟨[(0, Sl a1 l_ c1), (4, V (.map (some r101))), (5, I x_110), (6, Pt 7 0), (7, I r117), (12, Sl a1 l_ c1), (13, I (lN l_)), (14, I x_110)], [(7, (54, [I ((gi l_ x_110).What), I ((gi l_ x_110).Prc), I ((gi l_ x_110).N)]))]⟩ fun a hS => ?_
   refine rP T hS ⟨[(0, Sl a1 l_ c1), (4, V (.map (some r101))), (5, I x_110), (6, Pt 7 0), (7, I r117), (12, Sl a1 l_ c1), (13, I (lN l_)), (14, I x_110), (22, B (r117 != 0))], [(7, (54, [I ((gi l_ x_110).What), I ((gi l_ x_110).Prc), I ((gi l_ x_110).N)]))]⟩ fun a hS => ?_
   refine wcond hS (b := (r117 != 0)) kr (fun hb => ?_) (fun hb => ?_)
   ·replace hm := hm.1 hb
    refine rP T hS ⟨[(2, I x_110), (3, I r117)], []⟩ fun a hS => ?_
    refine wret ?_
    exact fin T hS hO (fun c => c) rfl (r := [.int .i64 x_110, .int .i64 r117]) kr (fun χ' hM hC => ⟨(x_110, r117), hm, rfl⟩)
   replace hm := hm.2 hb
   refine wskip (wseq ?_)
   refine regO ?_
   refine oP T hS 3 ⟨[(0, Sl a1 l_ c1), (4, V (.map (some r101))), (5, I x_110), (6, Pt 7 0), (12, Sl a1 l_ c1), (13, I (lN l_)), (14, I x_110), (25, V (.map (some r101))), (27, I ((gi l_ x_110).Prc))], [(7, (54, [I ((gi l_ x_110).What), I ((gi l_ x_110).Prc), I ((gi l_ x_110).N)]))]⟩ fun a hS => ?_
   refine op1 (mlook kI tI false (zv := .int .i64 0) (z := 0) ((gi l_ x_110).Prc) hS kr kr kr kr Try.underlying59 Try.underlying3 kr rfl h108 ?_)
   intro v118 a hv hS
   replace hv : tI.R _ _ [v118] _ := hv
   cases hv
   refine eP T hS ⟨[(0, Sl a1 l_ c1), (4, V (.map (some r101))), (5, I x_110), (6, Pt 7 0), (12, Sl a1 l_ c1), (13, I (lN l_)), (14, I x_110), (33, B ((((mget open_107 ((gi l_ x_110).Prc)).getD 0) == 1) == (((gi l_ x_110).What) == 1)))], [(7, (54, [I ((gi l_ x_110).What), I ((gi l_ x_110).Prc), I ((gi l_ x_110).N)]))]⟩ fun a hS => ?_
   refine wcond hS (b := ((((mget open_107 ((gi l_ x_110).Prc)).getD 0) == 1) == (((gi l_ x_110).What) == 1))) kr (fun hb => ?_) (fun hb => ?_)
   ·replace hm := hm.1 hb
    refine rP T hS ⟨[(2, I x_110), (3, I 33)], []⟩ fun a hS => ?_
    refine wret ?_
    exact fin T hS hO (fun c => c) rfl (r := [.int .i64 x_110, .int .i64 33]) kr (fun χ' hM hC => ⟨(x_110, 33), hm, rfl⟩)
   replace hm := hm.2 hb
   refine wskip ?_
   refine region ?_
   refine oP T hS 5 ⟨[(0, Sl a1 l_ c1), (4, V (.map (some r101))), (12, Sl a1 l_ c1), (13, I (lN l_)), (14, I x_110), (35, V (.map (some r101))), (37, I ((gi l_ x_110).Prc)), (39, I ((gi l_ x_110).What))], []⟩ fun a hS => ?_
   refine op1 (mset kI tI false (v := I ((gi l_ x_110).What)) (u := (gi l_ x_110).What) ((gi l_ x_110).Prc) hS kr kr kr kr Try.underlying59 Try.underlying3 kr h108 rfl ?_)
   intro a w119 hE h120 hS
   clear h108
   replace hO := hO.mv hE rfl rfl
   replace h106 := h106.mv hE rfl
   replace h109 := h109.mv hE rfl
   refine doneK ?_
   refine region (eP T hS ⟨[(0, Sl a1 l_ c1), (4, V (.map (some r101))), (12, Sl a1 l_ c1), (13, I (lN l_)), (14, I (wR (x_110 + 1)))], []⟩ fun a hS => ?_)
   exact ⟨⟨mput open_107 ((gi l_ x_110).Prc) ((gi l_ x_110).What), wR (x_110 + 1)⟩, ⟨ρ, _, hm.1, hS.sl _, hO, h106, h120, h109⟩, hm.2⟩
  replace hm := hm.2 hb
  refine wexit (by rfl) ?_
  exact ⟨ρ, _, hm, hS.sl _, hO, h106⟩
 rintro a w126 ⟨ρ, χ125, hm, hS, hO, h105⟩
 unfold VC23_J1 at hm
 refine rP T hS ⟨[(2, I (lN l_)), (3, I 0)], []⟩ fun a hS => ?_
 refine wret ?_
 exact fin T hS hO (fun c => c) rfl (r := [.int .i64 (lN l_), .int .i64 0]) kr (fun χ' hM hC => ⟨((lN l_), 0), hm, rfl⟩)
theorem C23 (k37 : S37) (v : ∀ (l_ : List Api_Event), VC23 l_ (fun r => r = event_Check l_)) : S23 := by
 intro w χ l_ a1 c1   h1
 refine (W23 k37 w χ l_ a1 c1   _ (v l_) h1).mono ?_
 rintro _ _ _ _ ⟨r, rfl, h⟩
 exact h
theorem W39 (w0 : World) (χ0 : Nat → Nat) (l_ : List Api_Event) (a1 : Option Addr) (c1 : Nat) (Q : Int → Prop) (hm : VC39 l_ Q) (h1 : RS tApi_Event w0 χ0 a1 l_ c1) :
  Ret Try.prog 39 #[.slice a1 l_.length c1] xnone w0 χ0 (fun w χ' v => ∃ r, Q r ∧ v = .int .i64 r) := by
 unfold VC39 at hm
 replace hm := hm (h1.sm kr)
 refine enter Try.func39 rfl (vals := [.slice a1 l_.length c1]) kr ?_
 intro ρ a hS hO hM
 replace h1 := h1.m0 hM
 clear hM
 refine rP T hS ⟨[(0, Sl a1 l_ c1)], []⟩ fun a hS => ?_
 refine rP T hS ⟨[(0, Sl a1 l_ c1), (3, I (-1))], []⟩ fun a hS => ?_
 refine wcut (fun a w => ∃ (ρ : Nat → Nat) (χ : Nat → Nat) (most_101 : Int), VC39_J1 Q most_101 ∧ St Try.f39.ntmps ⟨[(3, I most_101)], []⟩ ρ a w χ ∧ Old w0 χ0 w χ) ?_ ?_
 ·refine rP T hS ⟨[(3, I (-1)), (6, Sl a1 l_ c1), (7, I (lN l_)), (8, I 0)], []⟩ fun a hS => ?_
  refine wblock ?_
  obtain ⟨I1, μ1, hm0, hm⟩ := hm
  refine wloop (σ := Int × Int) (fun s a w => ∃ (ρ : Nat → Nat) (χ : Nat → Nat), I1 s.1 s.2 ∧ St Try.f39.ntmps ⟨[(3, I s.1), (6, Sl a1 l_ c1), (7, I (lN l_)), (8, I s.2)], []⟩ ρ a w χ ∧ Old w0 χ0 w χ ∧ RS tApi_Event w χ a1 l_ c1) (fun s => μ1 s.1 s.2) (⟨(-1), 0⟩) ?_ ?_
  ·exact ⟨ρ, _, hm0, hS.sl _, hO, h1⟩
  rintro ⟨most_102, x_104⟩ a w115 ⟨ρ, χ114, hI, hS, hO, h103⟩
  replace hm := hm most_102 x_104 hI
  clear hI hm0
  refine rP T hS ⟨[(3, I most_102), (6, Sl a1 l_ c1), (7, I (lN l_)), (8, I x_104), (9, B (decide (x_104 < (lN l_))))], []⟩ fun a hS => ?_
  refine wseq ?_
  refine wcond hS (b := decide (x_104 < (lN l_))) kr (fun hb => ?_) (fun hb => ?_)
  ·replace hm := hm.1 hb
   refine wskip ?_
   refine wcut (fun a w => ∃ (ρ : Nat → Nat) (χ : Nat → Nat) (most_105 : Int), VC39_J2 I1 μ1 most_102 x_104 most_105 ∧ St Try.f39.ntmps ⟨[(3, I most_105), (6, Sl a1 l_ c1), (7, I (lN l_)), (8, I x_104)], []⟩ ρ a w χ ∧ Old w0 χ0 w χ ∧ RS tApi_Event w χ a1 l_ c1) ?_ ?_
   ·refine wblock ?_
    refine regO ?_
    obtain ⟨hq, hm⟩ := hm
    refine op1 (index (e := 54) (k := .i64) T hS kr kr kr kr h103 kr kr hq.1 hq.2 ?_)
    intro A107 a h108 hS
    refine op1 (loadA T hS kr kr kr h108 kr kr ?_)
    intro v109 a hv hS
    subst hv
    refine eM T hS ⟨[(3, I most_102), (5, Pt 6 0), (6, Sl a1 l_ c1), (7, I (lN l_)), (8, I x_104)], [(6, (54, [I ((gi l_ x_104).What), I ((gi l_ x_104).Prc), I ((gi l_ x_104).N)]))]⟩ fun ρ a w110 χ111 hS hE hr => ?_
    replace hO := hO.mv hE rfl rfl
    replace h103 := h103.mv hE rfl
    clear hE hr
    refine rP T hS ⟨[(3, I most_102), (5, Pt 6 0), (6, Sl a1 l_ c1), (7, I (lN l_)), (8, I x_104), (14, B (((gi l_ x_104).What) == 1))], [(6, (54, [I ((gi l_ x_104).What), I ((gi l_ x_104).Prc), I ((gi l_ x_104).N)]))]⟩ fun a hS => ?_
    refine wcond hS (b := (((gi l_ x_104).What) == 1)) kr (fun hb => ?_) (fun hb => ?_)
    ·replace hm := hm.1 hb
     refine region (eP T hS ⟨[(3, I (if (if 63 < ((gi l_ x_104).N) then 63 else ((gi l_ x_104).N)) > most_102 then (if 63 < ((gi l_ x_104).N) then 63 else ((gi l_ x_104).N)) else most_102)), (6, Sl a1 l_ c1), (7, I (lN l_)), (8, I x_104)], []⟩ fun a hS => ?_)
     exact ⟨ρ, _, if (if 63 < ((gi l_ x_104).N) then 63 else ((gi l_ x_104).N)) > most_102 then (if 63 < ((gi l_ x_104).N) then 63 else ((gi l_ x_104).N)) else most_102, hm, hS.sl _, hO, h103⟩
    replace hm := hm.2 hb
    refine wskip ?_
    exact ⟨ρ, _, most_102, hm, hS.sl _, hO, h103⟩
   rintro a w113 ⟨ρ, χ112, most_105, hm, hS, hO, h106⟩
   unfold VC39_J2 at hm
   refine region (eP T hS ⟨[(3, I most_105), (6, Sl a1 l_ c1), (7, I (lN l_)), (8, I (wR (x_104 + 1)))], []⟩ fun a hS => ?_)
   exact ⟨⟨most_105, wR (x_104 + 1)⟩, ⟨ρ, _, hm.1, hS.sl _, hO, h106⟩, hm.2⟩
  replace hm := hm.2 hb
  refine wexit (by rfl) ?_
  exact ⟨ρ, _, most_102, hm, hS.sl _, hO⟩
 rintro a w117 ⟨ρ, χ116, most_101, hm, hS, hO⟩
 unfold VC39_J1 at hm
 refine rP T hS ⟨[(2, I (wR (most_101 + 1)))], []⟩ fun a hS => ?_
 refine wret ?_
 exact fin T hS hO (fun c => c) rfl (r := [.int .i64 (wR (most_101 + 1))]) kr (fun χ' hM hC => ⟨(wR (most_101 + 1)), hm, rfl⟩)
theorem C39 (v : ∀ (l_ : List Api_Event), VC39 l_ (fun r => r = event_Kinds l_)) : S39 := by
 intro w χ l_ a1 c1   h1
 refine (W39 w χ l_ a1 c1   _ (v l_) h1).mono ?_
 rintro _ _ _ _ ⟨r, rfl, h⟩
 exact h
theorem W16 (w0 : World) (χ0 : Nat → Nat) (a_ : List Api_Event) (b_ : List Api_Event) (a1 : Option Addr) (c1 : Nat) (a2 : Option Addr) (c2 : Nat) (Q : Bool → Prop) (hm : VC16 a_ b_ Q) (h1 : RS tApi_Event w0 χ0 a1 a_ c1) (h2 : RS tApi_Event w0 χ0 a2 b_ c2) :
  Ret Try.prog 16 #[.slice a1 a_.length c1, .slice a2 b_.length c2] xnone w0 χ0 (fun w χ' v => ∃ r, Q r ∧ v = .bool r) := by
 unfold VC16 at hm
 replace hm := hm (h1.sm kr)
 replace hm := hm (h2.sm kr)
 refine enter Try.func16 rfl (vals := [.slice a1 a_.length c1, .slice a2 b_.length c2]) kr ?_
 intro ρ a hS hO hM
 replace h1 := h1.m0 hM
 replace h2 := h2.m0 hM
 clear hM
 refine rP T hS ⟨[(0, Sl a1 a_ c1), (1, Sl a2 b_ c2)], []⟩ fun a hS => ?_
 refine wseq (rP T hS ⟨[(0, Sl a1 a_ c1), (1, Sl a2 b_ c2), (10, B ((lN a_) != (lN b_)))], []⟩ fun a hS => ?_)
 refine wcond hS (b := ((lN a_) != (lN b_))) kr (fun hb => ?_) (fun hb => ?_)
 ·replace hm := hm.1 hb
  refine rP T hS ⟨[(4, B false)], []⟩ fun a hS => ?_
  refine wret ?_
  exact fin T hS hO (fun c => c) rfl (r := [.bool false]) kr (fun χ' hM hC => ⟨false, hm, rfl⟩)
 replace hm := hm.2 hb
 refine wskip ?_
 refine wcut (fun a w => ∃ (ρ : Nat → Nat) (χ : Nat → Nat), VC16_J1 Q ∧ St Try.f16.ntmps ⟨[], []⟩ ρ a w χ ∧ Old w0 χ0 w χ) ?_ ?_
 ·refine rP T hS ⟨[(0, Sl a1 a_ c1), (1, Sl a2 b_ c2), (5, I 0)], []⟩ fun a hS => ?_
  refine wblock ?_
  obtain ⟨I1, μ1, hm0, hm⟩ := hm
  refine wloop (σ := Int) (fun s a w => ∃ (ρ : Nat → Nat) (χ : Nat → Nat), I1 s ∧ St Try.f16.ntmps ⟨[(0, Sl a1 a_ c1), (1, Sl a2 b_ c2), (5, I s)], []⟩ ρ a w χ ∧ Old w0 χ0 w χ ∧ RS tApi_Event w χ a1 a_ c1 ∧ RS tApi_Event w χ a2 b_ c2) (fun s => μ1 s) (0) ?_ ?_
  ·exact ⟨ρ, _, hm0, hS.sl _, hO, h1, h2⟩
  rintro i_103 a w113 ⟨ρ, χ112, hI, hS, hO, h101, h102⟩
  replace hm := hm i_103 hI
  clear hI hm0
  refine wseq (rP T hS ⟨[(0, Sl a1 a_ c1), (1, Sl a2 b_ c2), (5, I i_103), (14, B (decide (i_103 < (lN a_))))], []⟩ fun a hS => ?_)
  refine wcond hS (b := decide (i_103 < (lN a_))) kr (fun hb => ?_) (fun hb => ?_)
  ·replace hm := hm.1 hb
   refine wskip (wseq ?_)
   refine wblock ?_
   refine drawnSX [] mixed hS ?_
   intro w104 χ105 hS hE hD hH
   replace hO := hO.mv hE rfl rfl
   replace h101 := h101.mv hE rfl
   replace h102 := h102.mv hE rfl
   refine tk T [0, 1, 4, 5] [] hS hH #[true, true, false, false, true, true, false, false, false] 5 ⟨[(0, Sl a1 a_ c1), (1, Sl a2 b_ c2), (5, I i_103), (17, Sl a1 a_ c1), (18, I i_103), (21, Sl a2 b_ c2), (22, I i_103)], []⟩ fun a hS => ?_
   obtain ⟨hq, hm⟩ := hm
   refine dindex (e := 54) (k := .i64) T 2 hS kr kr kr (by rfl) kr hH kr kr h101 kr kr hq.1 hq.2 ?_
   intro A106 a h107 hS
   have h107b := h107.here
   refine dloadA T 3 hS kr kr kr (by rfl) kr hH kr h107 h107b kr kr ?_
   intro v108 a hv hS
   subst hv
   obtain ⟨hq, hm⟩ := hm
   refine dindex (e := 54) (k := .i64) T 6 hS kr kr kr (by rfl) kr hH kr kr h102 kr kr hq.1 hq.2 ?_
   intro A109 a h110 hS
   have h110b := h110.here
   refine dloadA T 7 hS kr kr kr (by rfl) kr hH kr h110 h110b kr kr ?_
   intro v111 a hv hS
   subst hv
   refine dstructEq (op := .neq) (xs := [.int .i64 ((gi a_ i_103).What), .int .i64 ((gi a_ i_103).Prc), .int .i64 ((gi a_ i_103).N)]) (ys := [.int .i64 ((gi b_ i_103).What), .int .i64 ((gi b_ i_103).Prc), .int .i64 ((gi b_ i_103).N)]) (r := (((gi a_ i_103).What) == ((gi b_ i_103).What) && (((gi a_ i_103).Prc) == ((gi b_ i_103).Prc) && (((gi a_ i_103).N) == ((gi b_ i_103).N) && true)))) (b := (!(((gi a_ i_103).What) == ((gi b_ i_103).What) && (((gi a_ i_103).Prc) == ((gi b_ i_103).Prc) && (((gi a_ i_103).N) == ((gi b_ i_103).N) && true))))) 8 T hS kr kr kr (by rfl) kr hH kr kr kr kr kr kr ?_
   intro a hS
   refine drawnDone kr ?_
   clear hD hH
   replace hS := hS.sl ⟨[(0, Sl a1 a_ c1), (1, Sl a2 b_ c2), (5, I i_103), (25, B (!(((gi a_ i_103).What) == ((gi b_ i_103).What) && (((gi a_ i_103).Prc) == ((gi b_ i_103).Prc) && (((gi a_ i_103).N) == ((gi b_ i_103).N) && true)))))], []⟩
   refine wcond hS (b := (!(((gi a_ i_103).What) == ((gi b_ i_103).What) && (((gi a_ i_103).Prc) == ((gi b_ i_103).Prc) && (((gi a_ i_103).N) == ((gi b_ i_103).N) && true))))) kr (fun hb => ?_) (fun hb => ?_)
   ·replace hm := hm.1 hb
    refine rP T hS ⟨[(4, B false)], []⟩ fun a hS => ?_
    refine wret ?_
    exact fin T hS hO (fun c => c) rfl (r := [.bool false]) kr (fun χ' hM hC => ⟨false, hm, rfl⟩)
   replace hm := hm.2 hb
   refine wskip ?_
   refine region (eP T hS ⟨[(0, Sl a1 a_ c1), (1, Sl a2 b_ c2), (5, I (wR (i_103 + 1)))], []⟩ fun a hS => ?_)
   exact ⟨wR (i_103 + 1), ⟨ρ, _, hm.1, hS.sl _, hO, h101, h102⟩, hm.2⟩
  replace hm := hm.2 hb
  refine wexit (by rfl) ?_
  exact ⟨ρ, _, hm, hS.sl _, hO⟩
 rintro a w115 ⟨ρ, χ114, hm, hS, hO⟩
 unfold VC16_J1 at hm
 refine rP T hS ⟨[(4, B true)], []⟩ fun a hS => ?_
 refine wret ?_
 exact fin T hS hO (fun c => c) rfl (r := [.bool true]) kr (fun χ' hM hC => ⟨true, hm, rfl⟩)
theorem C16 (v : ∀ (a_ : List Api_Event) (b_ : List Api_Event), VC16 a_ b_ (fun r => r = ref25_Same a_ b_)) : S16 := by
 intro w χ a_ b_ a1 c1 a2 c2   h1 h2
 refine (W16 w χ a_ b_ a1 c1 a2 c2   _ (v a_ b_) h1 h2).mono ?_
 rintro _ _ _ _ ⟨r, rfl, h⟩
 exact h
theorem W24 (k23 : S23) (k38 : S38) (k39 : S39) (w0 : World) (χ0 : Nat → Nat) (c_ : Histtext_Case) (a1 : Option Addr) (c1 : Nat) (a2 : Option Addr) (c2 : Nat) (Q : Int → Prop) (hm : VC24 c_ Q) (h1 : RS tApi_Row w0 χ0 a1 c_.Object.Rows c1) (h2 : RS tApi_Event w0 χ0 a2 c_.Events c2) :
  Ret Try.prog 24 #[.agg #[.int .i64 c_.Object.States, .int .i64 c_.Object.Kinds, .int .i64 c_.Object.Init, .slice a1 c_.Object.Rows.length c1, .slice a2 c_.Events.length c2]] xnone w0 χ0 (fun w χ' v => ∃ r, Q r ∧ v = .int .i64 r) := by
 unfold VC24 at hm
 replace hm := hm (h1.sm kr)
 replace hm := hm (h2.sm kr)
 refine enter Try.func24 rfl (vals := [.agg #[.int .i64 c_.Object.States, .int .i64 c_.Object.Kinds, .int .i64 c_.Object.Init, .slice a1 c_.Object.Rows.length c1, .slice a2 c_.Events.length c2]]) kr ?_
 intro ρ a hS hO hM
 replace h1 := h1.m0 hM
 replace h2 := h2.m0 hM
 clear hM
 refine rM T hS ⟨[(1, Pt 2 0)], [(2, (33, [I c_.Object.States, I c_.Object.Kinds, I c_.Object.Init, Sl a1 c_.Object.Rows c1, Sl a2 c_.Events c2]))]⟩ fun ρ a w115 χ116 hS hE hr => ?_
 replace hO := hO.mv hE rfl rfl
 replace h1 := h1.mv hE rfl
 replace h2 := h2.mv hE rfl
 clear hE hr
 refine wseq ?_
 refine regO ?_
 refine oP T hS 2 ⟨[(1, Pt 2 0), (9, V (.agg #[.int .i64 c_.Object.States, .int .i64 c_.Object.Kinds, .int .i64 c_.Object.Init, .slice a1 c_.Object.Rows.length c1]))], [(2, (33, [I c_.Object.States, I c_.Object.Kinds, I c_.Object.Init, Sl a1 c_.Object.Rows c1, Sl a2 c_.Events c2]))]⟩ fun a hS => ?_
 obtain ⟨hq, hm⟩ := hm
 refine op1 (call hS kr kr hb38 kr (fun _ _ => rfl) (k38 _ _ c_.Object a1 c1 hq h1) ?_)
 intro v101 a w102 χ103 hE hp hS
 replace hO := hO.mv hE rfl rfl
 replace h1 := h1.mv hE rfl
 replace h2 := h2.mv hE rfl
 obtain ⟨r104, hr⟩ : ∃ r, object_Check c_.Object = r := ⟨_, rfl⟩
 replace hm := hm r104 hr
 rw [hr] at hp
 clear hr
 subst hp
 refine eP T hS ⟨[(1, Pt 2 0), (4, I r104.2)], [(2, (33, [I c_.Object.States, I c_.Object.Kinds, I c_.Object.Init, Sl a1 c_.Object.Rows c1, Sl a2 c_.Events c2]))]⟩ fun a hS => ?_
 refine rP T hS ⟨[(1, Pt 2 0), (4, I r104.2), (14, B (r104.2 != 0))], [(2, (33, [I c_.Object.States, I c_.Object.Kinds, I c_.Object.Init, Sl a1 c_.Object.Rows c1, Sl a2 c_.Events c2]))]⟩ fun a hS => ?_
 refine wcond hS (b := (r104.2 != 0)) kr (fun hb => ?_) (fun hb => ?_)
 ·replace hm := hm.1 hb
  refine rP T hS ⟨[(2, I r104.2)], []⟩ fun a hS => ?_
  refine wret ?_
  exact fin T hS hO (fun c => c) rfl (r := [.int .i64 r104.2]) kr (fun χ' hM hC => ⟨r104.2, hm, rfl⟩)
 replace hm := hm.2 hb
 refine wskip (wseq ?_)
 refine regO ?_
 refine oP T hS 2 ⟨[(1, Pt 2 0), (18, Sl a2 c_.Events c2)], [(2, (33, [I c_.Object.States, I c_.Object.Kinds, I c_.Object.Init, Sl a1 c_.Object.Rows c1, Sl a2 c_.Events c2]))]⟩ fun a hS => ?_
 refine op1 (call hS kr kr hb23 kr (fun _ _ => rfl) (k23 _ _ c_.Events a2 c2 h2) ?_)
 intro v105 a w106 χ107 hE hp hS
 replace hO := hO.mv hE rfl rfl
 replace h1 := h1.mv hE rfl
 replace h2 := h2.mv hE rfl
 obtain ⟨r108, hr⟩ : ∃ r, event_Check c_.Events = r := ⟨_, rfl⟩
 replace hm := hm r108 hr
 rw [hr] at hp
 clear hr
 subst hp
 refine eP T hS ⟨[(1, Pt 2 0), (6, I r108.2)], [(2, (33, [I c_.Object.States, I c_.Object.Kinds, I c_.Object.Init, Sl a1 c_.Object.Rows c1, Sl a2 c_.Events c2]))]⟩ fun a hS => ?_
 refine rP T hS ⟨[(1, Pt 2 0), (6, I r108.2), (23, B (r108.2 != 0))], [(2, (33, [I c_.Object.States, I c_.Object.Kinds, I c_.Object.Init, Sl a1 c_.Object.Rows c1, Sl a2 c_.Events c2]))]⟩ fun a hS => ?_
 refine wcond hS (b := (r108.2 != 0)) kr (fun hb => ?_) (fun hb => ?_)
 ·replace hm := hm.1 hb
  refine rP T hS ⟨[(2, I r108.2)], []⟩ fun a hS => ?_
  refine wret ?_
  exact fin T hS hO (fun c => c) rfl (r := [.int .i64 r108.2]) kr (fun χ' hM hC => ⟨r108.2, hm, rfl⟩)
 replace hm := hm.2 hb
 refine wskip (wseq ?_)
 refine drawnSX [2] mixed hS ?_
 intro w109 χ110 hS hE hD hH
 replace hO := hO.mv hE rfl rfl
 replace h1 := h1.mv hE rfl
 replace h2 := h2.mv hE rfl
 refine tk T [0, 3, 1, 4, 5] [2] hS hH #[true, true, false, true, true, true, false] 2 ⟨[(26, Sl a2 c_.Events c2), (30, I c_.Object.Kinds)], [(2, (33, [I c_.Object.States, I c_.Object.Kinds, I c_.Object.Init, Sl a1 c_.Object.Rows c1, Sl a2 c_.Events c2]))]⟩ fun a hS => ?_
 refine only 2 kr (by rfl) (call hS kr kr hb39 kr (fun _ _ => rfl) (k39 _ _ c_.Events a2 c2 h2) ?_)
 intro v111 a w112 χ113 hE hp hS
 replace hO := hO.mv hE rfl rfl
 replace hD := hD.ev hE rfl
 replace h1 := h1.mv hE rfl
 replace h2 := h2.mv hE rfl
 obtain ⟨r114, hr⟩ : ∃ r, event_Kinds c_.Events = r := ⟨_, rfl⟩
 replace hm := hm r114 hr
 rw [hr] at hp
 clear hr
 subst hp
 replace hS := hS.sl ⟨[(26, Sl a2 c_.Events c2), (30, I c_.Object.Kinds), (27, I r114)], [(2, (33, [I c_.Object.States, I c_.Object.Kinds, I c_.Object.Init, Sl a1 c_.Object.Rows c1, Sl a2 c_.Events c2]))]⟩
 refine andH (Hold.of hS (bks := [2]) kr hD) ?_
 intro hH
 refine tk T [6] [2] hS hH #[true, true, true, true, true, true, true] 0 ⟨[(31, B (decide (r114 > c_.Object.Kinds)))], [(2, (33, [I c_.Object.States, I c_.Object.Kinds, I c_.Object.Init, Sl a1 c_.Object.Rows c1, Sl a2 c_.Events c2]))]⟩ fun a hS => ?_
 refine drawnDone kr ?_
 clear hD hH
 replace hS := hS.sl ⟨[(31, B (decide (r114 > c_.Object.Kinds)))], []⟩
 refine wcond hS (b := decide (r114 > c_.Object.Kinds)) kr (fun hb => ?_) (fun hb => ?_)
 ·replace hm := hm.1 hb
  refine rP T hS ⟨[(2, I 31)], []⟩ fun a hS => ?_
  refine wret ?_
  exact fin T hS hO (fun c => c) rfl (r := [.int .i64 31]) kr (fun χ' hM hC => ⟨31, hm, rfl⟩)
 replace hm := hm.2 hb
 refine wskip ?_
 refine rP T hS ⟨[(2, I 0)], []⟩ fun a hS => ?_
 refine wret ?_
 exact fin T hS hO (fun c => c) rfl (r := [.int .i64 0]) kr (fun χ' hM hC => ⟨0, hm, rfl⟩)
theorem C24 (k23 : S23) (k38 : S38) (k39 : S39) (v : ∀ (c_ : Histtext_Case), preCa c_ → VC24 c_ (fun r => r = histtext_Check c_)) : S24 := by
 intro w χ c_ a1 c1 a2 c2   hp h1 h2
 refine (W24 k23 k38 k39 w χ c_ a1 c1 a2 c2   _ (v c_ hp) h1 h2).mono ?_
 rintro _ _ _ _ ⟨r, rfl, h⟩
 exact h
theorem W9 (k23 : S23) (w0 : World) (χ0 : Nat → Nat) (l_ : List Api_Event) (a1 : Option Addr) (c1 : Nat) (Q : (List Api_Oper) × Int → Prop) (hm : VC9 l_ Q) (h1 : RS tApi_Event w0 χ0 a1 l_ c1) :
  Ret Try.prog 9 #[.slice a1 l_.length c1] xnone w0 χ0 (fun w χ' v => ∃ r, Q r ∧ ∃ (ra1 : Option Addr) (rc1 : Nat), v = .tuple #[.slice ra1 r.1.length rc1, .int .i64 r.2] ∧ RS tApi_Oper w χ' ra1 r.1 rc1) := by
 unfold VC9 at hm
 replace hm := hm (h1.sm kr)
 refine enter Try.func9 rfl (vals := [.slice a1 l_.length c1]) kr ?_
 intro ρ a hS hO hM
 replace h1 := h1.m0 hM
 clear hM
 refine rP T hS ⟨[(0, Sl a1 l_ c1)], []⟩ fun a hS => ?_
 refine wseq ?_
 refine regO ?_
 refine oP T hS 1 ⟨[(0, Sl a1 l_ c1), (12, Sl a1 l_ c1)], []⟩ fun a hS => ?_
 refine op1 (call hS kr kr hb23 kr (fun _ _ => rfl) (k23 _ _ l_ a1 c1 h1) ?_)
 intro v101 a w102 χ103 hE hp hS
 replace hO := hO.mv hE rfl rfl
 replace h1 := h1.mv hE rfl
 obtain ⟨r104, hr⟩ : ∃ r, event_Check l_ = r := ⟨_, rfl⟩
 replace hm := hm r104 hr
 rw [hr] at hp
 clear hr
 subst hp
 refine eP T hS ⟨[(0, Sl a1 l_ c1), (5, I r104.2)], []⟩ fun a hS => ?_
 refine rP T hS ⟨[(0, Sl a1 l_ c1), (5, I r104.2), (17, B (r104.2 != 0))], []⟩ fun a hS => ?_
 refine wcond hS (b := (r104.2 != 0)) kr (fun hb => ?_) (fun hb => ?_)
 ·replace hm := hm.1 hb
  refine rP T hS ⟨[(2, V (.slice none 0 0)), (3, I r104.2)], []⟩ fun a hS => ?_
  refine wret ?_
  exact fin T hS hO (fun c => c) rfl (r := [.slice none 0 0, .int .i64 r104.2]) kr (fun χ' hM hC => ⟨([], r104.2), hm, none, 0, rfl, RS.empty _ _ _⟩)
 replace hm := hm.2 hb
 refine wskip ?_
 refine rP T hS ⟨[(0, Sl a1 l_ c1), (6, V (.slice none 0 0))], []⟩ fun a hS => ?_
 refine regO ?_
 refine op1 (mkmap kI tI false 1020 hS kr kr ?_)
 intro r105 a w106 χ107 hE h108 hS
 replace hO := hO.mv hE rfl rfl
 replace h1 := h1.mv hE rfl
 refine eP T hS ⟨[(0, Sl a1 l_ c1), (6, V (.slice none 0 0)), (7, V (.map (some r105)))], []⟩ fun a hS => ?_
 refine wcut (fun a w => ∃ (ρ : Nat → Nat) (χ : Nat → Nat) (out_109 : List Api_Oper) (a110 : Option Addr) (c111 : Nat), VC9_J1 Q out_109 ∧ St Try.f9.ntmps ⟨[(6, Sl a110 out_109 c111)], []⟩ ρ a w χ ∧ Old w0 χ0 w χ ∧ OS tApi_Oper 61 w χ 1003 a110 out_109 c111) ?_ ?_
 ·refine rP T hS ⟨[(6, V (.slice none 0 0)), (7, V (.map (some r105))), (20, Sl a1 l_ c1), (21, I (lN l_)), (22, I 0)], []⟩ fun a hS => ?_
  refine wblock ?_
  obtain ⟨I1, μ1, hm0, hm⟩ := hm
  refine wloop (σ := (List Api_Oper) × (List (Int × Int)) × Int) (fun s a w => ∃ (ρ : Nat → Nat) (χ : Nat → Nat) (a116 : Option Addr) (c117 : Nat), I1 s.1 s.2.1 s.2.2 ∧ St Try.f9.ntmps ⟨[(6, Sl a116 s.1 c117), (7, V (.map (some r105))), (20, Sl a1 l_ c1), (21, I (lN l_)), (22, I s.2.2)], []⟩ ρ a w χ ∧ Old w0 χ0 w χ ∧ OS tApi_Oper 61 w χ 1003 a116 s.1 c117 ∧ OM kI tI false w χ 1020 r105 s.2.1 ∧ RS tApi_Event w χ a1 l_ c1) (fun s => μ1 s.1 s.2.1 s.2.2) (⟨[], ([] : List (Int × Int)), 0⟩) ?_ ?_
  ·exact ⟨ρ, _, none, 0, hm0, hS.sl _, hO, (OS.nil _ _ _ _ _), h108, h1⟩
  rintro ⟨out_115, open_119, x_122⟩ a w165 ⟨ρ, χ164, a116, c117, hI, hS, hO, h118, h120, h121⟩
  replace hm := hm out_115 open_119 x_122 hI
  clear hI hm0
  refine rP T hS ⟨[(6, Sl a116 out_115 c117), (7, V (.map (some r105))), (20, Sl a1 l_ c1), (21, I (lN l_)), (22, I x_122), (23, B (decide (x_122 < (lN l_))))], []⟩ fun a hS => ?_
  refine wseq ?_
  refine wcond hS (b := decide (x_122 < (lN l_))) kr (fun hb => ?_) (fun hb => ?_)
  ·replace hm := hm.1 hb
   refine wskip ?_
   refine wcut (fun a w => ∃ (ρ : Nat → Nat) (χ : Nat → Nat) (out_123 : List Api_Oper) (open_127 : List (Int × Int)) (a124 : Option Addr) (c125 : Nat), VC9_J2 I1 μ1 out_115 open_119 x_122 out_123 open_127 ∧ St Try.f9.ntmps ⟨[(6, Sl a124 out_123 c125), (7, V (.map (some r105))), (20, Sl a1 l_ c1), (21, I (lN l_)), (22, I x_122)], []⟩ ρ a w χ ∧ Old w0 χ0 w χ ∧ OS tApi_Oper 61 w χ 1003 a124 out_123 c125 ∧ OM kI tI false w χ 1020 r105 open_127 ∧ RS tApi_Event w χ a1 l_ c1) ?_ ?_
   ·refine wblock ?_
    refine regO ?_
    refine oP T hS 1 ⟨[(6, Sl a116 out_115 c117), (7, V (.map (some r105))), (20, Sl a1 l_ c1), (21, I (lN l_)), (22, I x_122), (24, I x_122)], []⟩ fun a hS => ?_
    obtain ⟨hq, hm⟩ := hm
    refine op1 (index (e := 54) (k := .i64) T hS kr kr kr kr h121 kr kr hq.1 hq.2 ?_)
    intro A130 a h131 hS
    refine op1 (loadA T hS kr kr kr h131 kr kr ?_)
    intro v132 a hv hS
    subst hv
    refine eM T hS ⟨[(6, Sl a116 out_115 c117), (7, V (.map (some r105))), (8, I x_122), (9, Pt 10 0), (20, Sl a1 l_ c1), (21, I (lN l_)), (22, I x_122)], [(10, (54, [I ((gi l_ x_122).What), I ((gi l_ x_122).Prc), I ((gi l_ x_122).N)]))]⟩ fun ρ a w160 χ161 hS hE hr => ?_
    replace hO := hO.mv hE rfl rfl
    replace h118 := h118.mv hE rfl rfl
    replace h120 := h120.mv hE rfl rfl
    replace h121 := h121.mv hE rfl
    clear hE hr
    refine wseq (rP T hS ⟨[(6, Sl a116 out_115 c117), (7, V (.map (some r105))), (8, I x_122), (9, Pt 10 0), (20, Sl a1 l_ c1), (21, I (lN l_)), (22, I x_122), (29, B (((gi l_ x_122).What) == 1))], [(10, (54, [I ((gi l_ x_122).What), I ((gi l_ x_122).Prc), I ((gi l_ x_122).N)]))]⟩ fun a hS => ?_)
    refine wcond hS (b := (((gi l_ x_122).What) == 1)) kr (fun hb => ?_) (fun hb => ?_)
    ·replace hm := hm.1 hb
     refine regO ?_
     refine oP T hS 5 ⟨[(6, Sl a116 out_115 c117), (7, V (.map (some r105))), (8, I x_122), (9, Pt 10 0), (20, Sl a1 l_ c1), (21, I (lN l_)), (22, I x_122), (30, V (.map (some r105))), (32, I ((gi l_ x_122).Prc)), (34, I (lN out_115))], [(10, (54, [I ((gi l_ x_122).What), I ((gi l_ x_122).Prc), I ((gi l_ x_122).N)]))]⟩ fun a hS => ?_
     refine op1 (mset kI tI false (v := I (lN out_115)) (u := (lN out_115)) ((gi l_ x_122).Prc) hS kr kr kr kr Try.underlying59 Try.underlying3 kr h120 rfl ?_)
     intro a w133 hE h134 hS
     clear h120
     replace hO := hO.mv hE rfl rfl
     replace h118 := h118.mv hE rfl rfl
     replace h121 := h121.mv hE rfl
     refine doneK ?_
     refine regO ?_
     refine oP T hS 7 ⟨[(6, Sl a116 out_115 c117), (7, V (.map (some r105))), (20, Sl a1 l_ c1), (21, I (lN l_)), (22, I x_122), (35, Sl a116 out_115 c117), (41, V (.agg #[.int .i64 ((gi l_ x_122).Prc), .int .i64 ((gi l_ x_122).N), .int .i64 x_122, .int .i64 (-1), .int .i64 (-1)]))], []⟩ fun a hS => ?_
     refine op1 (lit (E := 61) (col := 0) (T := tApi_Oper) (vals := [.agg #[.int .i64 ((gi l_ x_122).Prc), .int .i64 ((gi l_ x_122).N), .int .i64 x_122, .int .i64 (-1), .int .i64 (-1)]]) (ys := [(⟨(gi l_ x_122).Prc, (gi l_ x_122).N, x_122, (-1), (-1)⟩ : Api_Oper)]) T hS kr kr kr kr (by exact ⟨rfl, trivial⟩) rfl kr kr kr kr ?_)
     intro b135 a w136 χ137 hE h138 hN hS
     clear hN
     replace hO := hO.mv hE rfl rfl
     replace h118 := h118.mv hE rfl rfl
     replace h121 := h121.mv hE rfl
     replace h134 := h134.mv hE rfl rfl
     replace h138 := h138.rs0
     obtain ⟨hq, hm⟩ := hm
     obtain ⟨news, hN⟩ := h138.src
     refine op1 (append (E := 61) (T := tApi_Oper) (col := 1003) (xs := out_115) T hS kr kr kr kr h118 hN kr kr kr kr hq ?_)
     intro a142 c143 a w139 χ140 hE h141 hS
     clear hq hN
     clear h118
     replace hO := hO.mv hE rfl rfl
     replace h121 := h121.mv hE rfl
     replace h134 := h134.mv hE rfl rfl
     replace h138 := h138.mv hE rfl
     refine eP T hS ⟨[(6, Sl a142 (out_115 ++ [(⟨(gi l_ x_122).Prc, (gi l_ x_122).N, x_122, (-1), (-1)⟩ : Api_Oper)]) c143), (7, V (.map (some r105))), (20, Sl a1 l_ c1), (21, I (lN l_)), (22, I x_122)], []⟩ fun a hS => ?_
     refine wexit (by rfl) ?_
     exact ⟨ρ, _, out_115 ++ [(⟨(gi l_ x_122).Prc, (gi l_ x_122).N, x_122, (-1), (-1)⟩ : Api_Oper)], mput open_119 ((gi l_ x_122).Prc) (lN out_115), a142, c143, hm, hS.sl _, hO, h141, h134, h121⟩
    replace hm := hm.2 hb
    refine wskip ?_
    refine regO ?_
    refine oP T hS 4 ⟨[(6, Sl a116 out_115 c117), (7, V (.map (some r105))), (8, I x_122), (9, Pt 10 0), (20, Sl a1 l_ c1), (21, I (lN l_)), (22, I x_122), (44, Sl a116 out_115 c117), (45, V (.map (some r105))), (47, I ((gi l_ x_122).Prc))], [(10, (54, [I ((gi l_ x_122).What), I ((gi l_ x_122).Prc), I ((gi l_ x_122).N)]))]⟩ fun a hS => ?_
    refine op1 (mlook kI tI false (zv := .int .i64 0) (z := 0) ((gi l_ x_122).Prc) hS kr kr kr kr Try.underlying59 Try.underlying3 kr rfl h120 ?_)
    intro v144 a hv hS
    replace hv : tI.R _ _ [v144] _ := hv
    cases hv
    obtain ⟨hq149, hm⟩ := hm
    refine op1 (indexX (E := 61) (k := .i64) T hS kr kr kr kr h118 kr kr hq149.1 hq149.2 ?_)
    intro A145 a h147 h146 hS
    have h148 := h147.ad
    clear h147 h146
    refine eP T hS ⟨[(6, Sl a116 out_115 c117), (7, V (.map (some r105))), (8, I x_122), (9, Pt 10 0), (10, V (.pointer (some A145))), (20, Sl a1 l_ c1), (21, I (lN l_)), (22, I x_122)], [(10, (54, [I ((gi l_ x_122).What), I ((gi l_ x_122).Prc), I ((gi l_ x_122).N)]))]⟩ fun a hS => ?_
    refine drawnX [10] mixed hS ?_
    intro w150 χ151 hS hE hD hH
    replace hO := hO.mv hE rfl rfl
    replace h118 := h118.mv hE rfl rfl
    replace h120 := h120.mv hE rfl rfl
    replace h121 := h121.mv hE rfl
    refine tk T [0, 1, 2, 3, 4] [10] hS hH #[true, true, true, true, true, false, false, false, false, false, false] 6 ⟨[(6, Sl a116 out_115 c117), (7, V (.map (some r105))), (20, Sl a1 l_ c1), (21, I (lN l_)), (22, I x_122), (50, V (.pointer (some A145))), (51, V (.pointer (some A145))), (52, I x_122), (54, I ((gi l_ x_122).N))], [(10, (54, [I ((gi l_ x_122).What), I ((gi l_ x_122).Prc), I ((gi l_ x_122).N)]))]⟩ fun a hS => ?_
    refine only 5 kr (by rfl) (nilP (A := A145) hS kr kr kr ?_)
    intro a hS
    refine andH (Hold.of hS (bks := [10]) kr hD) ?_
    intro hH
    refine only 6 kr (by rfl) (fieldP (off := 3) (fsz := 1) (ft := 3) T hS kr kr kr h148 kr kr ?_)
    intro A152 a h153 hS
    refine andH (Hold.of hS (bks := [10]) kr hD) ?_
    intro hH
    refine only 7 kr (by rfl) (storeF (m := 1) (off := 3) (x := (⟨(gi out_115 ((mget open_119 ((gi l_ x_122).Prc)).getD 0)).Prc, (gi out_115 ((mget open_119 ((gi l_ x_122).Prc)).getD 0)).Kind, (gi out_115 ((mget open_119 ((gi l_ x_122).Prc)).getD 0)).Start, x_122, (gi out_115 ((mget open_119 ((gi l_ x_122).Prc)).getD 0)).Result⟩ : Api_Oper)) (v := I x_122) (i := ((mget open_119 ((gi l_ x_122).Prc)).getD 0).toNat) (E := 61) (xs := out_115) T hS kr kr kr kr h118 h153 (by have := hq149.1; have := hq149.2; (try simp only [List.length_set]); omega) kr kr rfl (fun _ _ _ h => by cases h; rfl) ?_)
    intro a w154 hE h155 hS
    clear h118
    replace hO := hO.mv hE rfl rfl
    replace hD := hD.ev hE rfl
    replace h120 := h120.mv hE rfl rfl
    replace h121 := h121.mv hE rfl
    replace hS := hS.conv (t := 6) (y := .slice a116 (out_115.set ((mget open_119 ((gi l_ x_122).Prc)).getD 0).toNat (⟨(gi out_115 ((mget open_119 ((gi l_ x_122).Prc)).getD 0)).Prc, (gi out_115 ((mget open_119 ((gi l_ x_122).Prc)).getD 0)).Kind, (gi out_115 ((mget open_119 ((gi l_ x_122).Prc)).getD 0)).Start, x_122, (gi out_115 ((mget open_119 ((gi l_ x_122).Prc)).getD 0)).Result⟩ : Api_Oper)).length c117) kr (by rw [List.length_set])
    refine andH (Hold.of hS (bks := [10]) kr hD) ?_
    intro hH
    refine only 8 kr (by rfl) (nilP (A := A145) hS kr kr kr ?_)
    intro a hS
    refine andH (Hold.of hS (bks := [10]) kr hD) ?_
    intro hH
    refine only 9 kr (by rfl) (fieldP (off := 4) (fsz := 1) (ft := 3) T hS kr kr kr h148 kr kr ?_)
    intro A156 a h157 hS
    refine andH (Hold.of hS (bks := [10]) kr hD) ?_
    intro hH
    refine only 10 kr (by rfl) (storeF (m := 1) (off := 4) (x := (⟨(gi (out_115.set ((mget open_119 ((gi l_ x_122).Prc)).getD 0).toNat (⟨(gi out_115 ((mget open_119 ((gi l_ x_122).Prc)).getD 0)).Prc, (gi out_115 ((mget open_119 ((gi l_ x_122).Prc)).getD 0)).Kind, (gi out_115 ((mget open_119 ((gi l_ x_122).Prc)).getD 0)).Start, x_122, (gi out_115 ((mget open_119 ((gi l_ x_122).Prc)).getD 0)).Result⟩ : Api_Oper)) ((mget open_119 ((gi l_ x_122).Prc)).getD 0)).Prc, (gi (out_115.set ((mget open_119 ((gi l_ x_122).Prc)).getD 0).toNat (⟨(gi out_115 ((mget open_119 ((gi l_ x_122).Prc)).getD 0)).Prc, (gi out_115 ((mget open_119 ((gi l_ x_122).Prc)).getD 0)).Kind, (gi out_115 ((mget open_119 ((gi l_ x_122).Prc)).getD 0)).Start, x_122, (gi out_115 ((mget open_119 ((gi l_ x_122).Prc)).getD 0)).Result⟩ : Api_Oper)) ((mget open_119 ((gi l_ x_122).Prc)).getD 0)).Kind, (gi (out_115.set ((mget open_119 ((gi l_ x_122).Prc)).getD 0).toNat (⟨(gi out_115 ((mget open_119 ((gi l_ x_122).Prc)).getD 0)).Prc, (gi out_115 ((mget open_119 ((gi l_ x_122).Prc)).getD 0)).Kind, (gi out_115 ((mget open_119 ((gi l_ x_122).Prc)).getD 0)).Start, x_122, (gi out_115 ((mget open_119 ((gi l_ x_122).Prc)).getD 0)).Result⟩ : Api_Oper)) ((mget open_119 ((gi l_ x_122).Prc)).getD 0)).Start, (gi (out_115.set ((mget open_119 ((gi l_ x_122).Prc)).getD 0).toNat (⟨(gi out_115 ((mget open_119 ((gi l_ x_122).Prc)).getD 0)).Prc, (gi out_115 ((mget open_119 ((gi l_ x_122).Prc)).getD 0)).Kind, (gi out_115 ((mget open_119 ((gi l_ x_122).Prc)).getD 0)).Start, x_122, (gi out_115 ((mget open_119 ((gi l_ x_122).Prc)).getD 0)).Result⟩ : Api_Oper)) ((mget open_119 ((gi l_ x_122).Prc)).getD 0)).End, (gi l_ x_122).N⟩ : Api_Oper)) (v := I ((gi l_ x_122).N)) (i := ((mget open_119 ((gi l_ x_122).Prc)).getD 0).toNat) (E := 61) (xs := (out_115.set ((mget open_119 ((gi l_ x_122).Prc)).getD 0).toNat (⟨(gi out_115 ((mget open_119 ((gi l_ x_122).Prc)).getD 0)).Prc, (gi out_115 ((mget open_119 ((gi l_ x_122).Prc)).getD 0)).Kind, (gi out_115 ((mget open_119 ((gi l_ x_122).Prc)).getD 0)).Start, x_122, (gi out_115 ((mget open_119 ((gi l_ x_122).Prc)).getD 0)).Result⟩ : Api_Oper))) T hS kr kr kr kr h155 h157 (by have := hq149.1; have := hq149.2; (try simp only [List.length_set]); omega) kr kr rfl (fun _ _ _ h => by cases h; rfl) ?_)
    intro a w158 hE h159 hS
    clear h155
    replace hO := hO.mv hE rfl rfl
    replace hD := hD.ev hE rfl
    replace h120 := h120.mv hE rfl rfl
    replace h121 := h121.mv hE rfl
    replace hS := hS.conv (t := 6) (y := .slice a116 ((out_115.set ((mget open_119 ((gi l_ x_122).Prc)).getD 0).toNat (⟨(gi out_115 ((mget open_119 ((gi l_ x_122).Prc)).getD 0)).Prc, (gi out_115 ((mget open_119 ((gi l_ x_122).Prc)).getD 0)).Kind, (gi out_115 ((mget open_119 ((gi l_ x_122).Prc)).getD 0)).Start, x_122, (gi out_115 ((mget open_119 ((gi l_ x_122).Prc)).getD 0)).Result⟩ : Api_Oper)).set ((mget open_119 ((gi l_ x_122).Prc)).getD 0).toNat (⟨(gi (out_115.set ((mget open_119 ((gi l_ x_122).Prc)).getD 0).toNat (⟨(gi out_115 ((mget open_119 ((gi l_ x_122).Prc)).getD 0)).Prc, (gi out_115 ((mget open_119 ((gi l_ x_122).Prc)).getD 0)).Kind, (gi out_115 ((mget open_119 ((gi l_ x_122).Prc)).getD 0)).Start, x_122, (gi out_115 ((mget open_119 ((gi l_ x_122).Prc)).getD 0)).Result⟩ : Api_Oper)) ((mget open_119 ((gi l_ x_122).Prc)).getD 0)).Prc, (gi (out_115.set ((mget open_119 ((gi l_ x_122).Prc)).getD 0).toNat (⟨(gi out_115 ((mget open_119 ((gi l_ x_122).Prc)).getD 0)).Prc, (gi out_115 ((mget open_119 ((gi l_ x_122).Prc)).getD 0)).Kind, (gi out_115 ((mget open_119 ((gi l_ x_122).Prc)).getD 0)).Start, x_122, (gi out_115 ((mget open_119 ((gi l_ x_122).Prc)).getD 0)).Result⟩ : Api_Oper)) ((mget open_119 ((gi l_ x_122).Prc)).getD 0)).Kind, (gi (out_115.set ((mget open_119 ((gi l_ x_122).Prc)).getD 0).toNat (⟨(gi out_115 ((mget open_119 ((gi l_ x_122).Prc)).getD 0)).Prc, (gi out_115 ((mget open_119 ((gi l_ x_122).Prc)).getD 0)).Kind, (gi out_115 ((mget open_119 ((gi l_ x_122).Prc)).getD 0)).Start, x_122, (gi out_115 ((mget open_119 ((gi l_ x_122).Prc)).getD 0)).Result⟩ : Api_Oper)) ((mget open_119 ((gi l_ x_122).Prc)).getD 0)).Start, (gi (out_115.set ((mget open_119 ((gi l_ x_122).Prc)).getD 0).toNat (⟨(gi out_115 ((mget open_119 ((gi l_ x_122).Prc)).getD 0)).Prc, (gi out_115 ((mget open_119 ((gi l_ x_122).Prc)).getD 0)).Kind, (gi out_115 ((mget open_119 ((gi l_ x_122).Prc)).getD 0)).Start, x_122, (gi out_115 ((mget open_119 ((gi l_ x_122).Prc)).getD 0)).Result⟩ : Api_Oper)) ((mget open_119 ((gi l_ x_122).Prc)).getD 0)).End, (gi l_ x_122).N⟩ : Api_Oper)).length c117) kr (by rw [List.length_set])
    refine andH (Hold.of hS (bks := [10]) kr hD) ?_
    intro hH
    refine drawnDone kr ?_
    clear hD hH
    replace hS := hS.sl ⟨[(6, Sl a116 ((out_115.set ((mget open_119 ((gi l_ x_122).Prc)).getD 0).toNat (⟨(gi out_115 ((mget open_119 ((gi l_ x_122).Prc)).getD 0)).Prc, (gi out_115 ((mget open_119 ((gi l_ x_122).Prc)).getD 0)).Kind, (gi out_115 ((mget open_119 ((gi l_ x_122).Prc)).getD 0)).Start, x_122, (gi out_115 ((mget open_119 ((gi l_ x_122).Prc)).getD 0)).Result⟩ : Api_Oper)).set ((mget open_119 ((gi l_ x_122).Prc)).getD 0).toNat (⟨(gi (out_115.set ((mget open_119 ((gi l_ x_122).Prc)).getD 0).toNat (⟨(gi out_115 ((mget open_119 ((gi l_ x_122).Prc)).getD 0)).Prc, (gi out_115 ((mget open_119 ((gi l_ x_122).Prc)).getD 0)).Kind, (gi out_115 ((mget open_119 ((gi l_ x_122).Prc)).getD 0)).Start, x_122, (gi out_115 ((mget open_119 ((gi l_ x_122).Prc)).getD 0)).Result⟩ : Api_Oper)) ((mget open_119 ((gi l_ x_122).Prc)).getD 0)).Prc, (gi (out_115.set ((mget open_119 ((gi l_ x_122).Prc)).getD 0).toNat (⟨(gi out_115 ((mget open_119 ((gi l_ x_122).Prc)).getD 0)).Prc, (gi out_115 ((mget open_119 ((gi l_ x_122).Prc)).getD 0)).Kind, (gi out_115 ((mget open_119 ((gi l_ x_122).Prc)).getD 0)).Start, x_122, (gi out_115 ((mget open_119 ((gi l_ x_122).Prc)).getD 0)).Result⟩ : Api_Oper)) ((mget open_119 ((gi l_ x_122).Prc)).getD 0)).Kind, (gi (out_115.set ((mget open_119 ((gi l_ x_122).Prc)).getD 0).toNat (⟨(gi out_115 ((mget open_119 ((gi l_ x_122).Prc)).getD 0)).Prc, (gi out_115 ((mget open_119 ((gi l_ x_122).Prc)).getD 0)).Kind, (gi out_115 ((mget open_119 ((gi l_ x_122).Prc)).getD 0)).Start, x_122, (gi out_115 ((mget open_119 ((gi l_ x_122).Prc)).getD 0)).Result⟩ : Api_Oper)) ((mget open_119 ((gi l_ x_122).Prc)).getD 0)).Start, (gi (out_115.set ((mget open_119 ((gi l_ x_122).Prc)).getD 0).toNat (⟨(gi out_115 ((mget open_119 ((gi l_ x_122).Prc)).getD 0)).Prc, (gi out_115 ((mget open_119 ((gi l_ x_122).Prc)).getD 0)).Kind, (gi out_115 ((mget open_119 ((gi l_ x_122).Prc)).getD 0)).Start, x_122, (gi out_115 ((mget open_119 ((gi l_ x_122).Prc)).getD 0)).Result⟩ : Api_Oper)) ((mget open_119 ((gi l_ x_122).Prc)).getD 0)).End, (gi l_ x_122).N⟩ : Api_Oper)) c117), (7, V (.map (some r105))), (20, Sl a1 l_ c1), (21, I (lN l_)), (22, I x_122)], []⟩
    exact ⟨ρ, _, ((out_115.set ((mget open_119 ((gi l_ x_122).Prc)).getD 0).toNat (⟨(gi out_115 ((mget open_119 ((gi l_ x_122).Prc)).getD 0)).Prc, (gi out_115 ((mget open_119 ((gi l_ x_122).Prc)).getD 0)).Kind, (gi out_115 ((mget open_119 ((gi l_ x_122).Prc)).getD 0)).Start, x_122, (gi out_115 ((mget open_119 ((gi l_ x_122).Prc)).getD 0)).Result⟩ : Api_Oper)).set ((mget open_119 ((gi l_ x_122).Prc)).getD 0).toNat (⟨(gi (out_115.set ((mget open_119 ((gi l_ x_122).Prc)).getD 0).toNat (⟨(gi out_115 ((mget open_119 ((gi l_ x_122).Prc)).getD 0)).Prc, (gi out_115 ((mget open_119 ((gi l_ x_122).Prc)).getD 0)).Kind, (gi out_115 ((mget open_119 ((gi l_ x_122).Prc)).getD 0)).Start, x_122, (gi out_115 ((mget open_119 ((gi l_ x_122).Prc)).getD 0)).Result⟩ : Api_Oper)) ((mget open_119 ((gi l_ x_122).Prc)).getD 0)).Prc, (gi (out_115.set ((mget open_119 ((gi l_ x_122).Prc)).getD 0).toNat (⟨(gi out_115 ((mget open_119 ((gi l_ x_122).Prc)).getD 0)).Prc, (gi out_115 ((mget open_119 ((gi l_ x_122).Prc)).getD 0)).Kind, (gi out_115 ((mget open_119 ((gi l_ x_122).Prc)).getD 0)).Start, x_122, (gi out_115 ((mget open_119 ((gi l_ x_122).Prc)).getD 0)).Result⟩ : Api_Oper)) ((mget open_119 ((gi l_ x_122).Prc)).getD 0)).Kind, (gi (out_115.set ((mget open_119 ((gi l_ x_122).Prc)).getD 0).toNat (⟨(gi out_115 ((mget open_119 ((gi l_ x_122).Prc)).getD 0)).Prc, (gi out_115 ((mget open_119 ((gi l_ x_122).Prc)).getD 0)).Kind, (gi out_115 ((mget open_119 ((gi l_ x_122).Prc)).getD 0)).Start, x_122, (gi out_115 ((mget open_119 ((gi l_ x_122).Prc)).getD 0)).Result⟩ : Api_Oper)) ((mget open_119 ((gi l_ x_122).Prc)).getD 0)).Start, (gi (out_115.set ((mget open_119 ((gi l_ x_122).Prc)).getD 0).toNat (⟨(gi out_115 ((mget open_119 ((gi l_ x_122).Prc)).getD 0)).Prc, (gi out_115 ((mget open_119 ((gi l_ x_122).Prc)).getD 0)).Kind, (gi out_115 ((mget open_119 ((gi l_ x_122).Prc)).getD 0)).Start, x_122, (gi out_115 ((mget open_119 ((gi l_ x_122).Prc)).getD 0)).Result⟩ : Api_Oper)) ((mget open_119 ((gi l_ x_122).Prc)).getD 0)).End, (gi l_ x_122).N⟩ : Api_Oper)), open_119, a116, c117, hm, hS.sl _, hO, h159, h120, h121⟩
   rintro a w163 ⟨ρ, χ162, out_123, open_127, a124, c125, hm, hS, hO, h126, h128, h129⟩
   unfold VC9_J2 at hm
   refine region (eP T hS ⟨[(6, Sl a124 out_123 c125), (7, V (.map (some r105))), (20, Sl a1 l_ c1), (21, I (lN l_)), (22, I (wR (x_122 + 1)))], []⟩ fun a hS => ?_)
   exact ⟨⟨out_123, open_127, wR (x_122 + 1)⟩, ⟨ρ, _, a124, c125, hm.1, hS.sl _, hO, h126, h128, h129⟩, hm.2⟩
  replace hm := hm.2 hb
  refine wexit (by rfl) ?_
  exact ⟨ρ, _, out_115, a116, c117, hm, hS.sl _, hO, h118⟩
 rintro a w167 ⟨ρ, χ166, out_109, a110, c111, hm, hS, hO, h112⟩
 unfold VC9_J1 at hm
 refine rP T hS ⟨[(2, Sl a110 out_109 c111), (3, I 0)], []⟩ fun a hS => ?_
 refine wret ?_
 obtain ⟨χ113, hE, hF⟩ := h112.freeze (by decide)
 replace hS := hS.ev hE (xone_box kr)
 replace hO := hO.mv hE rfl rfl
 have h114 := hF; clear hE hF
 exact fin T hS hO (fun c => c) rfl (r := [.slice a110 out_109.length c111, .int .i64 0]) kr (fun χ' hM hC => ⟨(out_109, 0), hm, a110, c111, rfl, h114.m0 hM⟩)
theorem C9 (k23 : S23) (v : ∀ (l_ : List Api_Event), VC9 l_ (fun r => r = oper_Of l_)) : S9 := by
 intro w χ l_ a1 c1   h1
 refine (W9 k23 w χ l_ a1 c1   _ (v l_) h1).mono ?_
 rintro _ _ _ _ ⟨r, rfl, h⟩
 exact h
end Go.Proofs.Ytojdelnnjhbgbaa
