/- Walks: each function returns what its condition asks. Condition: the contracts of its callees, handed in. -/
import Derived.Test.YtomodhnocjmfpaaQWalksS
set_option linter.all false
namespace Go.Proofs.Ytomodhnocjmfpaa
open Go Go.Sv
set_option maxHeartbeats 1000000
/-- (*replevin/search.seeker).first -/
theorem W21 (N : Nat) (k18 : S18) (k34 : S34) (k35 : S35) (k36 : S36N N) (w0 : World) (χ0 : Nat → Nat) (state : Int) (so : List Api_Pick) (cap1 : Search_seeker) (a1 : Option Addr) (c1 : Nat) (a2 : Option Addr) (c2 : Nat) (a3 : Option Addr) (c3 : Nat) (a4 : Option Addr) (c4 : Nat) (m4 : Nat) (r5 : Nat) (m5 : Nat) (b1 : Nat) (i1 : Nat) (Q : (List Api_Pick) × Bool × Search_seeker → Prop) (hm : VC21 N state so cap1 Q) (h1 : RS tApi_Pick w0 χ0 a1 so c1) (h2 : RS tApi_Row w0 χ0 a2 cap1.o.Rows c2) (h3 : RS tApi_Oper w0 χ0 a3 cap1.l c3) (h4 : OS tBool 4 w0 χ0 m4 a4 cap1.done c4) (h5 : OMS kvSearch_spot tI false w0 χ0 m5 r5 cap1.failed) (hc1 : Cell w0 χ0 b1 i1 76 [.int .i64 cap1.o.States, .int .i64 cap1.o.Kinds, .int .i64 cap1.o.Init, .slice a2 cap1.o.Rows.length c2, .slice a3 cap1.l.length c3, .slice a4 cap1.done.length c4, .map (some r5)]) (hA : Apart [i1, m4, m5]) :
  Ret Try.prog 21 #[.pointer (some ⟨b1, 0, none⟩), .int .i64 state, .slice a1 so.length c1] (pR [i1, m4, m5]) w0 χ0 (fun w χ' v => ∃ r, Q r ∧ ∃ (ra1 : Option Addr) (rc1 : Nat) (ra2 : Option Addr) (rc2 : Nat) (ra3 : Option Addr) (rc3 : Nat) (ra4 : Option Addr) (rc4 : Nat), v = .tuple #[.slice ra1 r.1.length rc1, .bool r.2.1] ∧ RS tApi_Pick w χ' ra1 r.1 rc1 ∧ RS tApi_Row w χ' ra2 r.2.2.o.Rows rc2 ∧ RS tApi_Oper w χ' ra3 r.2.2.l rc3 ∧ OS tBool 4 w χ' m4 ra4 r.2.2.done rc4 ∧ Cell w χ' b1 i1 76 [.int .i64 r.2.2.o.States, .int .i64 r.2.2.o.Kinds, .int .i64 r.2.2.o.Init, .slice ra2 r.2.2.o.Rows.length rc2, .slice ra3 r.2.2.l.length rc3, .slice ra4 r.2.2.done.length rc4, .map (some r5)] ∧ OMS kvSearch_spot tI false w χ' m5 r5 r.2.2.failed) := by
 unfold VC21 at hm
 replace hm := hm (h1.sm kr)
 replace hm := hm (h2.sm kr)
 replace hm := hm (h3.sm kr)
 replace hm := hm (h4.sm kr)
 refine enterR Try.func21 rfl (f0of [(i1, 901), (m4, 2004), (m5, 2005)]) (fun id => (bif Nat.beq id 901 then b1 else 0)) (args := [Pt 901 0, I state, Sl a1 so c1]) (bxs := [(901, (76, [I cap1.o.States, I cap1.o.Kinds, I cap1.o.Init, Sl a2 cap1.o.Rows c2, Sl a3 cap1.l c3, Sl a4 cap1.done c4, V (.map (some r5))]))]) kr rfl (BoxesOK.cons kr (hc1.map (f0of_at 0 hA.1 rfl)) BoxesOK.nil) (f0of_0 (fun q hq => (hA.2 q.1 (List.mem_map.2 ⟨q, hq, rfl⟩)).1)) ?_
 intro a hS hO hM
 have hP : Pin [(901, b1)] (fun id => (bif Nat.beq id 901 then b1 else 0)) := by intro q hq; simp at hq; rcases hq with rfl <;> rfl
 generalize (fun id => (bif Nat.beq id 901 then b1 else 0)) = ρ at hS hP
 clear hc1
 replace h1 := h1.m0 hM
 replace h2 := h2.m0 hM
 replace h3 := h3.m0 hM
 replace h4 := h4.map (f := f0of [(i1, 901), (m4, 2004), (m5, 2005)]) (f0of_at 1 hA.1 rfl) hM
 replace h5 := h5.map (f := f0of [(i1, 901), (m4, 2004), (m5, 2005)]) (f0of_at 2 hA.1 rfl) hM
 clear hM
 refine rM T hS ⟨[(3, Pt 4 0), (4, Pt 5 0), (5, Pt 6 0)], [(4, (53, [Pt 901 0])), (5, (3, [I state])), (6, (28, [Sl a1 so c1])), (901, (76, [I cap1.o.States, I cap1.o.Kinds, I cap1.o.Init, Sl a2 cap1.o.Rows c2, Sl a3 cap1.l c3, Sl a4 cap1.done c4, V (.map (some r5))]))]⟩ fun ρ a w251 χ252 hS hE hr => ?_
 replace hO := hO.mv hE rfl rfl
 replace h1 := h1.mv hE rfl
 replace h2 := h2.mv hE rfl
 replace h3 := h3.mv hE rfl
 replace h4 := h4.mv hE rfl rfl
 replace h5 := h5.mv hE rfl rfl
 replace hP := hP.mv hr kr
 clear hE hr
 refine wseq ?_
 refine regO ?_
 refine oP T hS 1 ⟨[(3, Pt 4 0), (4, Pt 5 0), (5, Pt 6 0), (14, Pt 901 0)], [(4, (53, [Pt 901 0])), (5, (3, [I state])), (6, (28, [Sl a1 so c1])), (901, (76, [I cap1.o.States, I cap1.o.Kinds, I cap1.o.Init, Sl a2 cap1.o.Rows c2, Sl a3 cap1.l c3, Sl a4 cap1.done c4, V (.map (some r5))]))]⟩ fun a hS => ?_
 have hb105 := (hS.cell (id := 901) (t := 76) (cs := [I cap1.o.States, I cap1.o.Kinds, I cap1.o.Init, Sl a2 cap1.o.Rows c2, Sl a3 cap1.l c3, Sl a4 cap1.done c4, V (.map (some r5))]) kr)
 have ho106 := h5
 obtain ⟨hq, hm⟩ := hm
 refine op1 (callR hS kr kr hb34 kr (Ret.unlendR kr (k34 _ (lend 2004 _) cap1 a2 c2 a3 c3 a4 c4 r5 2005 (ρ 901) 901 hq (h2.m0 (M0.lend 2004)) (h3.m0 (M0.lend 2004)) h4.lend (h5.lendK kr) (hb105.lend kr) ⟨by decide, by decide⟩)) ?_)
 intro v101 a w102 χ103 hE hp hS
 clear hq
 clear h5
 replace hO := hO.mv hE rfl rfl
 replace h1 := h1.mv hE rfl
 replace h2 := h2.mv hE rfl
 replace h3 := h3.mv hE rfl
 replace h4 := h4.mv hE rfl rfl
 clear hE
 obtain ⟨hkeep, _, hp⟩ := hp
 obtain ⟨hp, hc107, h108⟩ := hp
 replace hc107 := hc107.back hb105 hkeep
 replace h108 := h108.back ho106 hkeep (fun h => h)
 clear hkeep hb105 ho106
 obtain ⟨r104, hr⟩ : ∃ r, search_seeker_whole cap1 = r := ⟨_, rfl⟩
 replace hm := hm r104 hr
 rw [hr] at hp
 clear hr
 subst hp
 replace hS := hS.addbox (id := 901) (t := 76) (cs := [I cap1.o.States, I cap1.o.Kinds, I cap1.o.Init, Sl a2 cap1.o.Rows c2, Sl a3 cap1.l c3, Sl a4 cap1.done c4, V (.map (some r5))]) kr hc107
 clear hc107
 refine doneK ?_
 refine wcond hS (b := r104) kr (fun hb => ?_) (fun hb => ?_)
 ·replace hm := hm.1 hb
  refine rP T hS ⟨[(6, Sl a1 so c1), (7, B true)], [(901, (76, [I cap1.o.States, I cap1.o.Kinds, I cap1.o.Init, Sl a2 cap1.o.Rows c2, Sl a3 cap1.l c3, Sl a4 cap1.done c4, V (.map (some r5))]))]⟩ fun a hS => ?_
  refine wret ?_
  exact finR T hS hO (fun c h => f0of_zero kr h) (fun c h => f0of_else (l := [(i1, 901), (m4, 2004), (m5, 2005)]) h) (f1of [(i1, 901), (m4, 2004), (m5, 2005)]) rfl (r := [.slice a1 so.length c1, .bool true]) kr (fun χ' hM hC => ⟨(so, true, cap1), hm, a1, c1, a2, c2, a3, c3, a4, c4, rfl, h1.m0 hM, h2.m0 hM, h3.m0 hM, (OS.out (f := (f1of [(i1, 901), (m4, 2004), (m5, 2005)])) h4 hM hC kr), ((hS.cell (id := 901) (t := 76) (cs := [I cap1.o.States, I cap1.o.Kinds, I cap1.o.Init, Sl a2 cap1.o.Rows c2, Sl a3 cap1.l c3, Sl a4 cap1.done c4, V (.map (some r5))]) kr).out (f := (f1of [(i1, 901), (m4, 2004), (m5, 2005)])) hC kr kr (hP.at 0 rfl)), (h108.out (f := (f1of [(i1, 901), (m4, 2004), (m5, 2005)])) hM hC kr kr)⟩)
 ·replace hm := hm.2 hb
  refine wskip ?_
  refine regO ?_
  refine oP T hS 2 ⟨[(3, Pt 4 0), (4, Pt 5 0), (5, Pt 6 0), (17, Pt 901 0), (18, I state)], [(4, (53, [Pt 901 0])), (5, (3, [I state])), (6, (28, [Sl a1 so c1])), (901, (76, [I cap1.o.States, I cap1.o.Kinds, I cap1.o.Init, Sl a2 cap1.o.Rows c2, Sl a3 cap1.l c3, Sl a4 cap1.done c4, V (.map (some r5))]))]⟩ fun a hS => ?_
  have hb113 := (hS.cell (id := 901) (t := 76) (cs := [I cap1.o.States, I cap1.o.Kinds, I cap1.o.Init, Sl a2 cap1.o.Rows c2, Sl a3 cap1.l c3, Sl a4 cap1.done c4, V (.map (some r5))]) kr)
  have ho114 := h108
  refine op1 (callR hS kr kr hb35 kr (Ret.unlendR kr (k35 _ (lend 2004 _) state cap1 a2 c2 a3 c3 a4 c4 r5 2005 (ρ 901) 901 (h2.m0 (M0.lend 2004)) (h3.m0 (M0.lend 2004)) h4.lend (h108.lendK kr) (hb113.lend kr) ⟨by decide, by decide⟩)) ?_)
  intro v109 a w110 χ111 hE hp hS
  clear h108
  replace hO := hO.mv hE rfl rfl
  replace h1 := h1.mv hE rfl
  replace h2 := h2.mv hE rfl
  replace h3 := h3.mv hE rfl
  replace h4 := h4.mv hE rfl rfl
  clear hE
  obtain ⟨hkeep, _, hp⟩ := hp
  obtain ⟨hp, hc115, h116⟩ := hp
  replace hc115 := hc115.back hb113 hkeep
  replace h116 := h116.back ho114 hkeep (fun h => h)
  clear hkeep hb113 ho114
  obtain ⟨r112, hr⟩ : ∃ r, search_seeker_here state cap1 = r := ⟨_, rfl⟩
  replace hm := hm r112 hr
  rw [hr] at hp
  clear hr
  subst hp
  replace hS := hS.addbox (id := 901) (t := 76) (cs := [I cap1.o.States, I cap1.o.Kinds, I cap1.o.Init, Sl a2 cap1.o.Rows c2, Sl a3 cap1.l c3, Sl a4 cap1.done c4, V (.map (some r5))]) kr hc115
  clear hc115
  refine eM T hS ⟨[(3, Pt 4 0), (4, Pt 5 0), (5, Pt 6 0), (8, Pt 9 0)], [(4, (53, [Pt 901 0])), (5, (3, [I state])), (6, (28, [Sl a1 so c1])), (9, (79, [V (.int .u32 r112.done), I r112.state])), (901, (76, [I cap1.o.States, I cap1.o.Kinds, I cap1.o.Init, Sl a2 cap1.o.Rows c2, Sl a3 cap1.l c3, Sl a4 cap1.done c4, V (.map (some r5))]))]⟩ fun ρ a w249 χ250 hS hE hr => ?_
  replace hO := hO.mv hE rfl rfl
  replace h1 := h1.mv hE rfl
  replace h2 := h2.mv hE rfl
  replace h3 := h3.mv hE rfl
  replace h4 := h4.mv hE rfl rfl
  replace h116 := h116.mv hE rfl rfl
  replace hP := hP.mv hr kr
  clear hE hr
  refine wseq ?_
  refine drawnSX [4, 5, 6, 9, 901] mixed hS ?_
  intro w117 χ118 hS hE hD hH
  replace hO := hO.mv hE rfl rfl
  replace h1 := h1.mv hE rfl
  replace h2 := h2.mv hE rfl
  replace h3 := h3.mv hE rfl
  replace h4 := h4.mv hE rfl rfl
  replace h116 := h116.mv hE rfl rfl
  clear hE
  refine tk T [0, 4, 1, 2, 3] [4, 5, 6, 9, 901] hS hH #[true, true, true, true, true, false, false] 2 ⟨[(3, Pt 4 0), (4, Pt 5 0), (5, Pt 6 0), (8, Pt 9 0), (23, V (.map (some r5))), (24, V (.agg #[.int .u32 r112.done, .int .i64 r112.state]))], [(4, (53, [Pt 901 0])), (5, (3, [I state])), (6, (28, [Sl a1 so c1])), (9, (79, [V (.int .u32 r112.done), I r112.state])), (901, (76, [I cap1.o.States, I cap1.o.Kinds, I cap1.o.Init, Sl a2 cap1.o.Rows c2, Sl a3 cap1.l c3, Sl a4 cap1.done c4, V (.map (some r5))]))]⟩ fun a hS => ?_
  refine only 5 kr (by rfl) (mlookS kvSearch_spot tI false (zv := .int .i64 0) (z := 0) r112 hS kr kr kr kr Try.underlying74 kokSearch_spot kr rfl h116 ?_)
  intro v119 a hv hS
  replace hv : tI.R _ _ [v119] _ := hv
  cases hv
  refine andH (Hold.of hS (bks := [4, 5, 6, 9, 901]) kr hD) ?_
  intro hH
  refine tk T [6] [4, 5, 6, 9, 901] hS hH #[true, true, true, true, true, true, true] 0 ⟨[(3, Pt 4 0), (4, Pt 5 0), (5, Pt 6 0), (8, Pt 9 0), (26, B (decide (((mget cap1.failed r112).getD 0) > 0)))], [(4, (53, [Pt 901 0])), (5, (3, [I state])), (6, (28, [Sl a1 so c1])), (9, (79, [V (.int .u32 r112.done), I r112.state])), (901, (76, [I cap1.o.States, I cap1.o.Kinds, I cap1.o.Init, Sl a2 cap1.o.Rows c2, Sl a3 cap1.l c3, Sl a4 cap1.done c4, V (.map (some r5))]))]⟩ fun a hS => ?_
  refine drawnDone kr ?_
  clear hD hH
  replace hS := hS.sl ⟨[(3, Pt 4 0), (4, Pt 5 0), (5, Pt 6 0), (8, Pt 9 0), (26, B (decide (((mget cap1.failed r112).getD 0) > 0)))], [(4, (53, [Pt 901 0])), (5, (3, [I state])), (6, (28, [Sl a1 so c1])), (9, (79, [V (.int .u32 r112.done), I r112.state])), (901, (76, [I cap1.o.States, I cap1.o.Kinds, I cap1.o.Init, Sl a2 cap1.o.Rows c2, Sl a3 cap1.l c3, Sl a4 cap1.done c4, V (.map (some r5))]))]⟩
  refine wcond hS (b := decide (((mget cap1.failed r112).getD 0) > 0)) kr (fun hb => ?_) (fun hb => ?_)
  ·replace hm := hm.1 hb
   refine rP T hS ⟨[(6, V (.slice none 0 0)), (7, B false)], [(901, (76, [I cap1.o.States, I cap1.o.Kinds, I cap1.o.Init, Sl a2 cap1.o.Rows c2, Sl a3 cap1.l c3, Sl a4 cap1.done c4, V (.map (some r5))]))]⟩ fun a hS => ?_
   refine wret ?_
   exact finR T hS hO (fun c h => f0of_zero kr h) (fun c h => f0of_else (l := [(i1, 901), (m4, 2004), (m5, 2005)]) h) (f1of [(i1, 901), (m4, 2004), (m5, 2005)]) rfl (r := [.slice none 0 0, .bool false]) kr (fun χ' hM hC => ⟨([], false, cap1), hm, none, 0, a2, c2, a3, c3, a4, c4, rfl, RS.empty _ _ _, h2.m0 hM, h3.m0 hM, (OS.out (f := (f1of [(i1, 901), (m4, 2004), (m5, 2005)])) h4 hM hC kr), ((hS.cell (id := 901) (t := 76) (cs := [I cap1.o.States, I cap1.o.Kinds, I cap1.o.Init, Sl a2 cap1.o.Rows c2, Sl a3 cap1.l c3, Sl a4 cap1.done c4, V (.map (some r5))]) kr).out (f := (f1of [(i1, 901), (m4, 2004), (m5, 2005)])) hC kr kr (hP.at 0 rfl)), (h116.out (f := (f1of [(i1, 901), (m4, 2004), (m5, 2005)])) hM hC kr kr)⟩)
  ·replace hm := hm.2 hb
   refine wskip ?_
   refine rP T hS ⟨[(3, Pt 4 0), (4, Pt 5 0), (8, Pt 9 0), (9, .f (.func 36) [] [.p 4 0, .p 5 0, .p 6 0])], [(4, (53, [Pt 901 0])), (5, (3, [I state])), (6, (28, [Sl a1 so c1])), (9, (79, [V (.int .u32 r112.done), I r112.state])), (901, (76, [I cap1.o.States, I cap1.o.Kinds, I cap1.o.Init, Sl a2 cap1.o.Rows c2, Sl a3 cap1.l c3, Sl a4 cap1.done c4, V (.map (some r5))]))]⟩ fun a hS => ?_
   refine wcut (fun a w => ∃ (ρ : Nat → Nat) (χ : Nat → Nat) (x_120 : Int) (x_121 : Int) (x_122 : Int) (x_123 : List Api_Row) (x_127 : List Api_Oper) (x_131 : List Bool) (x_135 : List (Search_spot × Int)) (a124 : Option Addr) (c125 : Nat) (a128 : Option Addr) (c129 : Nat) (a132 : Option Addr) (c133 : Nat), VC21_J1 N state Q r112 x_120 x_121 x_122 x_123 x_127 x_131 x_135 ∧ St Try.f21.ntmps ⟨[(3, Pt 4 0), (8, Pt 9 0)], [(4, (53, [Pt 901 0])), (9, (79, [V (.int .u32 r112.done), I r112.state])), (901, (76, [I x_120, I x_121, I x_122, Sl a124 x_123 c125, Sl a128 x_127 c129, Sl a132 x_131 c133, V (.map (some r5))]))]⟩ ρ a w χ ∧ OldR (f0of [(i1, 901), (m4, 2004), (m5, 2005)]) w0 χ0 w χ ∧ Pin [(901, b1)] ρ ∧ RS tApi_Row w χ a124 x_123 c125 ∧ RS tApi_Oper w χ a128 x_127 c129 ∧ OS tBool 4 w χ 2004 a132 x_131 c133 ∧ OMS kvSearch_spot tI false w χ 2005 r5 x_135) ?_ ?_
   ·refine drawnSX [4, 5, 6, 9] mixed hS ?_
    intro w178 χ179 hS hE hD hH
    replace hO := hO.mv hE rfl rfl
    replace h1 := h1.mv hE rfl
    replace h2 := h2.mv hE rfl
    replace h3 := h3.mv hE rfl
    replace h4 := h4.mv hE rfl rfl
    replace h116 := h116.mv hE rfl rfl
    clear hE
    refine tk T [0, 4, 8, 9, 15, 1, 5, 10, 2, 6, 11] [4, 5, 6, 9] hS hH #[true, true, true, false, true, true, true, false, true, true, true, true, false, false, false, true] 5 ⟨[(3, Pt 4 0), (8, Pt 9 0), (9, .f (.func 36) [] [.p 4 0, .p 5 0, .p 6 0]), (30, Pt 901 0), (34, Pt 901 4), (36, I state), (39, Pt 901 5), (43, I 0)], [(4, (53, [Pt 901 0])), (5, (3, [I state])), (6, (28, [Sl a1 so c1])), (9, (79, [V (.int .u32 r112.done), I r112.state])), (901, (76, [I cap1.o.States, I cap1.o.Kinds, I cap1.o.Init, Sl a2 cap1.o.Rows c2, Sl a3 cap1.l c3, Sl a4 cap1.done c4, V (.map (some r5))]))]⟩ fun a hS => ?_
    refine drcut (fun a w => ∃ (χ : Nat → Nat), St Try.f21.ntmps ⟨[(3, Pt 4 0), (8, Pt 9 0), (9, .f (.func 36) [] [.p 4 0, .p 5 0, .p 6 0]), (31, V (.agg #[.int .i64 cap1.o.States, .int .i64 cap1.o.Kinds, .int .i64 cap1.o.Init, .slice a2 cap1.o.Rows.length c2])), (35, Sl a3 cap1.l c3), (36, I state), (40, Sl a4 cap1.done c4), (43, I 0)], [(4, (53, [Pt 901 0])), (5, (3, [I state])), (6, (28, [Sl a1 so c1])), (9, (79, [V (.int .u32 r112.done), I r112.state])), (901, (76, [I cap1.o.States, I cap1.o.Kinds, I cap1.o.Init, Sl a2 cap1.o.Rows c2, Sl a3 cap1.l c3, Sl a4 cap1.done c4, V (.map (some r5))]))]⟩ ρ a w χ ∧ OldR (f0of [(i1, 901), (m4, 2004), (m5, 2005)]) w0 χ0 w χ ∧ M0 w178 χ179 w χ ∧ Hold w178 χ179 (filt [4, 5, 6, 9] ⟨[(3, Pt 4 0), (4, Pt 5 0), (8, Pt 9 0), (9, .f (.func 36) [] [.p 4 0, .p 5 0, .p 6 0])], [(4, (53, [Pt 901 0])), (5, (3, [I state])), (6, (28, [Sl a1 so c1])), (9, (79, [V (.int .u32 r112.done), I r112.state])), (901, (76, [I cap1.o.States, I cap1.o.Kinds, I cap1.o.Init, Sl a2 cap1.o.Rows c2, Sl a3 cap1.l c3, Sl a4 cap1.done c4, V (.map (some r5))]))]⟩) ρ w ∧ RS tApi_Row w χ a2 cap1.o.Rows c2 ∧ RS tApi_Oper w χ a3 cap1.l c3 ∧ OS tBool 4 w χ 2004 a4 cap1.done c4 ∧ RS tApi_Pick w χ a1 so c1 ∧ OMS kvSearch_spot tI false w χ 2005 r5 cap1.failed) #[true, true, true, true, true, true, true, true, true, true, true, true, true, false, false, true] 2 ?_ (fun H => ?_)
    ·rintro a w186 ⟨χ185, hS, hO, hD, hH, h180, h181, h182, h183, h184⟩
     obtain ⟨hq, hm⟩ := hm
     refine only 13 kr (by rfl) (call hS kr kr hb18 kr (fun _ _ => rfl) (Ret.unlendO (k18 _ (lend 2004 _) cap1.o cap1.l state cap1.done a2 c2 a3 c3 a4 c4 4193 hq (h180.m0 (M0.lend 2004)) (h181.m0 (M0.lend 2004)) h182.lend)) ?_)
     intro v187 a w188 χ189 hE hp hS
     clear hq
     replace hO := hO.mv hE rfl rfl
     replace hD := hD.ev hE rfl
     replace h180 := h180.mv hE rfl
     replace h181 := h181.mv hE rfl
     replace h182 := h182.mv hE rfl rfl
     replace h183 := h183.mv hE rfl
     replace h184 := h184.mv hE rfl rfl
     clear hE
     obtain ⟨_, hback, hp⟩ := hp
     obtain ⟨a191, c192, hp, h193⟩ := hp
     replace h193 := h193.backO hback kr (fun h => h)
     clear hback
     obtain ⟨r190, hr⟩ : ∃ r, search_Next cap1.o cap1.l state cap1.done = r := ⟨_, rfl⟩
     replace hm := hm r190 hr
     rw [hr] at hp h193
     clear hr
     subst hp
     replace hm := hm (h193.sm kr)
     replace hS := hS.sl ⟨[(3, Pt 4 0), (8, Pt 9 0), (9, .f (.func 36) [] [.p 4 0, .p 5 0, .p 6 0]), (31, V (.agg #[.int .i64 cap1.o.States, .int .i64 cap1.o.Kinds, .int .i64 cap1.o.Init, .slice a2 cap1.o.Rows.length c2])), (35, Sl a3 cap1.l c3), (36, I state), (40, Sl a4 cap1.done c4), (43, I 0), (41, Sl a191 r190 c192)], [(4, (53, [Pt 901 0])), (5, (3, [I state])), (6, (28, [Sl a1 so c1])), (9, (79, [V (.int .u32 r112.done), I r112.state])), (901, (76, [I cap1.o.States, I cap1.o.Kinds, I cap1.o.Init, Sl a2 cap1.o.Rows c2, Sl a3 cap1.l c3, Sl a4 cap1.done c4, V (.map (some r5))]))]⟩
     refine andH (Hold.of hS (bks := [4, 5, 6, 9]) kr hD) ?_
     intro hH
     refine tk T [14] [4, 5, 6, 9] hS hH #[true, true, true, true, true, true, true, true, true, true, true, true, true, true, true, true] 0 ⟨[(3, Pt 4 0), (8, Pt 9 0), (9, .f (.func 36) [] [.p 4 0, .p 5 0, .p 6 0]), (41, Sl a191 r190 c192), (42, I ((r190.length : Nat) : Int)), (43, I 0)], [(4, (53, [Pt 901 0])), (5, (3, [I state])), (6, (28, [Sl a1 so c1])), (9, (79, [V (.int .u32 r112.done), I r112.state])), (901, (76, [I cap1.o.States, I cap1.o.Kinds, I cap1.o.Init, Sl a2 cap1.o.Rows c2, Sl a3 cap1.l c3, Sl a4 cap1.done c4, V (.map (some r5))]))]⟩ fun a hS => ?_
     refine drawnDone kr ?_
     clear hD hH
     replace hS := hS.sl ⟨[(3, Pt 4 0), (8, Pt 9 0), (9, .f (.func 36) [] [.p 4 0, .p 5 0, .p 6 0]), (41, Sl a191 r190 c192), (42, I ((r190.length : Nat) : Int)), (43, I 0)], [(4, (53, [Pt 901 0])), (5, (3, [I state])), (6, (28, [Sl a1 so c1])), (9, (79, [V (.int .u32 r112.done), I r112.state])), (901, (76, [I cap1.o.States, I cap1.o.Kinds, I cap1.o.Init, Sl a2 cap1.o.Rows c2, Sl a3 cap1.l c3, Sl a4 cap1.done c4, V (.map (some r5))]))]⟩
     refine wblock ?_
     obtain ⟨I1, μ1, hm0, hm⟩ := hm
     refine wloop (σ := (List Api_Pick) × Int × Int × Int × Int × (List Api_Row) × (List Api_Oper) × (List Bool) × (List (Search_spot × Int))) (fun s a w => ∃ (ρ : Nat → Nat) (χ : Nat → Nat) (a195 : Option Addr) (c196 : Nat) (a204 : Option Addr) (c205 : Nat) (a208 : Option Addr) (c209 : Nat) (a212 : Option Addr) (c213 : Nat), I1 s.1 s.2.1 s.2.2.1 s.2.2.2.1 s.2.2.2.2.1 s.2.2.2.2.2.1 s.2.2.2.2.2.2.1 s.2.2.2.2.2.2.2.1 s.2.2.2.2.2.2.2.2 ∧ St Try.f21.ntmps ⟨[(3, Pt 4 0), (8, Pt 9 0), (9, .f (.func 36) [] [.p 4 0, .p 5 0, .p 6 0]), (41, Sl a195 s.1 c196), (42, I ((r190.length : Nat) : Int)), (43, I s.2.1)], [(4, (53, [Pt 901 0])), (5, (3, [I state])), (6, (28, [Sl a1 so c1])), (9, (79, [V (.int .u32 r112.done), I r112.state])), (901, (76, [I s.2.2.1, I s.2.2.2.1, I s.2.2.2.2.1, Sl a204 s.2.2.2.2.2.1 c205, Sl a208 s.2.2.2.2.2.2.1 c209, Sl a212 s.2.2.2.2.2.2.2.1 c213, V (.map (some r5))]))]⟩ ρ a w χ ∧ OldR (f0of [(i1, 901), (m4, 2004), (m5, 2005)]) w0 χ0 w χ ∧ Pin [(901, b1)] ρ ∧ OS tApi_Pick 51 w χ 4193 a195 s.1 c196 ∧ RS tApi_Pick w χ a1 so c1 ∧ RS tApi_Row w χ a204 s.2.2.2.2.2.1 c205 ∧ RS tApi_Oper w χ a208 s.2.2.2.2.2.2.1 c209 ∧ OS tBool 4 w χ 2004 a212 s.2.2.2.2.2.2.2.1 c213 ∧ OMS kvSearch_spot tI false w χ 2005 r5 s.2.2.2.2.2.2.2.2) (fun s => μ1 s.1 s.2.1 s.2.2.1 s.2.2.2.1 s.2.2.2.2.1 s.2.2.2.2.2.1 s.2.2.2.2.2.2.1 s.2.2.2.2.2.2.2.1 s.2.2.2.2.2.2.2.2) (⟨r190, 0, cap1.o.States, cap1.o.Kinds, cap1.o.Init, cap1.o.Rows, cap1.l, cap1.done, cap1.failed⟩) ?_ ?_
     ·exact ⟨ρ, _, a191, c192, a2, c2, a3, c3, a4, c4, hm0, hS.sl _, hO, hP, h193, h183, h180, h181, h182, h184⟩
     ·rintro ⟨x_194, x_198, x_200, x_201, x_202, x_203, x_207, x_211, x_215⟩ a w246 ⟨ρ, χ245, a195, c196, a204, c205, a208, c209, a212, c213, hI, hS, hO, hP, h197, h199, h206, h210, h214, h216⟩
      replace hm := hm x_194 x_198 x_200 x_201 x_202 x_203 x_207 x_211 x_215 hI
      clear hI hm0
      refine rP T hS ⟨[(3, Pt 4 0), (8, Pt 9 0), (9, .f (.func 36) [] [.p 4 0, .p 5 0, .p 6 0]), (41, Sl a195 x_194 c196), (42, I ((r190.length : Nat) : Int)), (43, I x_198), (44, B (decide (x_198 < ((r190.length : Nat) : Int))))], [(4, (53, [Pt 901 0])), (5, (3, [I state])), (6, (28, [Sl a1 so c1])), (9, (79, [V (.int .u32 r112.done), I r112.state])), (901, (76, [I x_200, I x_201, I x_202, Sl a204 x_203 c205, Sl a208 x_207 c209, Sl a212 x_211 c213, V (.map (some r5))]))]⟩ fun a hS => ?_
      refine wseq ?_
      refine wcond hS (b := decide (x_198 < ((r190.length : Nat) : Int))) kr (fun hb => ?_) (fun hb => ?_)
      ·replace hm := hm.1 hb
       refine wskip ?_
       refine wseq ?_
       refine wblock ?_
       refine regO ?_
       obtain ⟨hq220, hm⟩ := hm
       refine op1 (indexX (E := 51) (k := .i64) T hS kr kr kr kr h197 kr kr hq220.1 hq220.2 ?_)
       intro A217 a h219 h218 hS
       refine op1 (loadAX T hS kr kr kr h218 kr kr ?_)
       intro v221 a hv hS
       subst hv
       refine eM T hS ⟨[(3, Pt 4 0), (8, Pt 9 0), (9, .f (.func 36) [] [.p 4 0, .p 5 0, .p 6 0]), (11, Pt 12 0), (41, Sl a195 x_194 c196), (42, I ((r190.length : Nat) : Int)), (43, I x_198)], [(4, (53, [Pt 901 0])), (5, (3, [I state])), (6, (28, [Sl a1 so c1])), (9, (79, [V (.int .u32 r112.done), I r112.state])), (12, (51, [I ((gi x_194 x_198).Oper), I ((gi x_194 x_198).Result)])), (901, (76, [I x_200, I x_201, I x_202, Sl a204 x_203 c205, Sl a208 x_207 c209, Sl a212 x_211 c213, V (.map (some r5))]))]⟩ fun ρ a w243 χ244 hS hE hr => ?_
       replace hO := hO.mv hE rfl rfl
       replace h197 := h197.mv hE rfl rfl
       replace h199 := h199.mv hE rfl
       replace h206 := h206.mv hE rfl
       replace h210 := h210.mv hE rfl
       replace h214 := h214.mv hE rfl rfl
       replace h216 := h216.mv hE rfl rfl
       replace hP := hP.mv hr kr
       clear hE hr
       refine regO ?_
       refine oP T hS 2 ⟨[(3, Pt 4 0), (8, Pt 9 0), (9, .f (.func 36) [] [.p 4 0, .p 5 0, .p 6 0]), (41, Sl a195 x_194 c196), (42, I ((r190.length : Nat) : Int)), (43, I x_198), (48, .f (.func 36) [] [.p 4 0, .p 5 0, .p 6 0]), (49, V (.agg #[.int .i64 ((gi x_194 x_198).Oper), .int .i64 ((gi x_194 x_198).Result)]))], [(4, (53, [Pt 901 0])), (5, (3, [I state])), (6, (28, [Sl a1 so c1])), (9, (79, [V (.int .u32 r112.done), I r112.state])), (901, (76, [I x_200, I x_201, I x_202, Sl a204 x_203 c205, Sl a208 x_207 c209, Sl a212 x_211 c213, V (.map (some r5))]))]⟩ fun a hS => ?_
       obtain ⟨hq, hm⟩ := hm
       refine op1 (callCR (fi := []) (cp := [.p 4 0, .p 5 0, .p 6 0]) hS kr kr hb36 kr kr (k36 _ _ (gi x_194 x_198) (⟨(⟨x_200, x_201, x_202, x_203⟩ : Api_Object), x_207, x_211, x_215⟩ : Search_seeker) state so a204 c205 a208 c209 a212 c213 2004 r5 2005 a1 c1 (ρ 4) 4 (ρ 901) 901 (ρ 5) 5 (ρ 6) 6 hq.1 hq.2 h206 h210 h214 h216 h199 (hS.cell (id := 4) (t := 53) (cs := [Pt 901 0]) kr) (hS.cell (id := 901) (t := 76) (cs := [I x_200, I x_201, I x_202, Sl a204 x_203 c205, Sl a208 x_207 c209, Sl a212 x_211 c213, V (.map (some r5))]) kr) (hS.cell (id := 5) (t := 3) (cs := [I state]) kr) (hS.cell (id := 6) (t := 28) (cs := [Sl a1 so c1]) kr) ⟨by decide, by decide⟩) ?_)
       intro v222 a w223 χ224 hE hp hS
       clear hq
       clear h216
       clear h214
       replace hO := hO.mv hE rfl rfl
       replace h197 := h197.mv hE rfl rfl
       replace h199 := h199.mv hE rfl
       replace h206 := h206.mv hE rfl
       replace h210 := h210.mv hE rfl
       clear hE
       obtain ⟨a226, c227, a229, c230, a232, c233, a235, c236, hp, h228, h231, h234, h237, hc239, hc240, h238, hc241, hc242⟩ := hp
       obtain ⟨r225, hr⟩ : ∃ r, search_seeker_first_1 (gi x_194 x_198) (⟨(⟨x_200, x_201, x_202, x_203⟩ : Api_Object), x_207, x_211, x_215⟩ : Search_seeker) state so = r := ⟨_, rfl⟩
       replace hm := hm r225 hr
       rw [hr] at hp h228 h231 h234 h237 hc240 h238
       clear hr
       subst hp
       replace hm := hm (h228.sm kr)
       replace hm := hm (h231.sm kr)
       replace hm := hm (h234.sm kr)
       replace hm := hm (h237.sm kr)
       replace hS := hS.addbox (id := 4) (t := 53) (cs := [Pt 901 0]) kr hc239
       replace hS := hS.addbox (id := 901) (t := 76) (cs := [I r225.2.2.o.States, I r225.2.2.o.Kinds, I r225.2.2.o.Init, Sl a229 r225.2.2.o.Rows c230, Sl a232 r225.2.2.l c233, Sl a235 r225.2.2.done c236, V (.map (some r5))]) kr hc240
       replace hS := hS.addbox (id := 5) (t := 3) (cs := [I state]) kr hc241
       replace hS := hS.addbox (id := 6) (t := 28) (cs := [Sl a1 so c1]) kr hc242
       clear hc239 hc240 hc241 hc242
       refine eP T hS ⟨[(3, Pt 4 0), (8, Pt 9 0), (9, .f (.func 36) [] [.p 4 0, .p 5 0, .p 6 0]), (12, Sl a226 r225.1 c227), (13, B r225.2.1), (41, Sl a195 x_194 c196), (42, I ((r190.length : Nat) : Int)), (43, I x_198)], [(4, (53, [Pt 901 0])), (5, (3, [I state])), (6, (28, [Sl a1 so c1])), (9, (79, [V (.int .u32 r112.done), I r112.state])), (901, (76, [I r225.2.2.o.States, I r225.2.2.o.Kinds, I r225.2.2.o.Init, Sl a229 r225.2.2.o.Rows c230, Sl a232 r225.2.2.l c233, Sl a235 r225.2.2.done c236, V (.map (some r5))]))]⟩ fun a hS => ?_
       refine rP T hS ⟨[(3, Pt 4 0), (8, Pt 9 0), (9, .f (.func 36) [] [.p 4 0, .p 5 0, .p 6 0]), (12, Sl a226 r225.1 c227), (41, Sl a195 x_194 c196), (42, I ((r190.length : Nat) : Int)), (43, I x_198), (53, B r225.2.1)], [(4, (53, [Pt 901 0])), (5, (3, [I state])), (6, (28, [Sl a1 so c1])), (9, (79, [V (.int .u32 r112.done), I r112.state])), (901, (76, [I r225.2.2.o.States, I r225.2.2.o.Kinds, I r225.2.2.o.Init, Sl a229 r225.2.2.o.Rows c230, Sl a232 r225.2.2.l c233, Sl a235 r225.2.2.done c236, V (.map (some r5))]))]⟩ fun a hS => ?_
       refine wcond hS (b := r225.2.1) kr (fun hb => ?_) (fun hb => ?_)
       ·replace hm := hm.1 hb
        refine rP T hS ⟨[(6, Sl a226 r225.1 c227), (7, B true)], [(901, (76, [I r225.2.2.o.States, I r225.2.2.o.Kinds, I r225.2.2.o.Init, Sl a229 r225.2.2.o.Rows c230, Sl a232 r225.2.2.l c233, Sl a235 r225.2.2.done c236, V (.map (some r5))]))]⟩ fun a hS => ?_
        refine wret ?_
        exact finR T hS hO (fun c h => f0of_zero kr h) (fun c h => f0of_else (l := [(i1, 901), (m4, 2004), (m5, 2005)]) h) (f1of [(i1, 901), (m4, 2004), (m5, 2005)]) rfl (r := [.slice a226 r225.1.length c227, .bool true]) kr (fun χ' hM hC => ⟨(r225.1, true, r225.2.2), hm, a226, c227, a229, c230, a232, c233, a235, c236, rfl, h228.m0 hM, h231.m0 hM, h234.m0 hM, (OS.out (f := (f1of [(i1, 901), (m4, 2004), (m5, 2005)])) h237 hM hC kr), ((hS.cell (id := 901) (t := 76) (cs := [I r225.2.2.o.States, I r225.2.2.o.Kinds, I r225.2.2.o.Init, Sl a229 r225.2.2.o.Rows c230, Sl a232 r225.2.2.l c233, Sl a235 r225.2.2.done c236, V (.map (some r5))]) kr).out (f := (f1of [(i1, 901), (m4, 2004), (m5, 2005)])) hC kr kr (hP.at 0 rfl)), (h238.out (f := (f1of [(i1, 901), (m4, 2004), (m5, 2005)])) hM hC kr kr)⟩)
       ·replace hm := hm.2 hb
        refine wskip ?_
        refine region (eP T hS ⟨[(3, Pt 4 0), (8, Pt 9 0), (9, .f (.func 36) [] [.p 4 0, .p 5 0, .p 6 0]), (41, Sl a195 x_194 c196), (42, I ((r190.length : Nat) : Int)), (43, I (IntKind.i64.wrap (x_198 + 1)))], [(4, (53, [Pt 901 0])), (5, (3, [I state])), (6, (28, [Sl a1 so c1])), (9, (79, [V (.int .u32 r112.done), I r112.state])), (901, (76, [I r225.2.2.o.States, I r225.2.2.o.Kinds, I r225.2.2.o.Init, Sl a229 r225.2.2.o.Rows c230, Sl a232 r225.2.2.l c233, Sl a235 r225.2.2.done c236, V (.map (some r5))]))]⟩ fun a hS => ?_)
        exact ⟨⟨x_194, IntKind.i64.wrap (x_198 + 1), r225.2.2.o.States, r225.2.2.o.Kinds, r225.2.2.o.Init, r225.2.2.o.Rows, r225.2.2.l, r225.2.2.done, r225.2.2.failed⟩, ⟨ρ, _, a195, c196, a229, c230, a232, c233, a235, c236, hm.1, hS.sl _, hO, hP, h197, h199, h231, h234, h237, h238⟩, hm.2⟩
      ·replace hm := hm.2 hb
       refine wexit (by rfl) ?_
       exact ⟨ρ, _, x_200, x_201, x_202, x_203, x_207, x_211, x_215, a204, c205, a208, c209, a212, c213, hm, hS.sl _, hO, hP, h206, h210, h214, h216⟩
    ·clear hm
     refine anyOf (is := [3, 7, 12]) kr (by decide) ?_
     intro i hi
     rcases mem3 hi with rfl | rfl | rfl
     ·refine oneOp (by rfl) (plain1 T hS kr kr kr (sv := V (.agg #[.int .i64 cap1.o.States, .int .i64 cap1.o.Kinds, .int .i64 cap1.o.Init, .slice a2 cap1.o.Rows.length c2])) kr ?_)
      intro a hS
      refine andH (Hold.of hS (bks := [4, 5, 6, 9]) kr hD) ?_
      intro hH
      refine anyOf (is := [7, 12]) kr (by decide) ?_
      intro i hi
      rcases mem2 hi with rfl | rfl
      ·refine oneOp (by rfl) (plain1 T hS kr kr kr (sv := Sl a3 cap1.l c3) kr ?_)
       intro a hS
       refine andH (Hold.of hS (bks := [4, 5, 6, 9]) kr hD) ?_
       intro hH
       refine only 12 kr (by rfl) (plain1 T hS kr kr kr (sv := Sl a4 cap1.done c4) kr ?_)
       intro a hS
       refine andH (Hold.of hS (bks := [4, 5, 6, 9]) kr hD) ?_
       intro hH
       exact H _ _ ⟨_, hS.sl _, hO, hD, hH, h2, h3, h4, h1, h116⟩
      ·refine oneOp (by rfl) (plain1 T hS kr kr kr (sv := Sl a4 cap1.done c4) kr ?_)
       intro a hS
       refine andH (Hold.of hS (bks := [4, 5, 6, 9]) kr hD) ?_
       intro hH
       refine only 7 kr (by rfl) (plain1 T hS kr kr kr (sv := Sl a3 cap1.l c3) kr ?_)
       intro a hS
       refine andH (Hold.of hS (bks := [4, 5, 6, 9]) kr hD) ?_
       intro hH
       exact H _ _ ⟨_, hS.sl _, hO, hD, hH, h2, h3, h4, h1, h116⟩
     ·refine oneOp (by rfl) (plain1 T hS kr kr kr (sv := Sl a3 cap1.l c3) kr ?_)
      intro a hS
      refine andH (Hold.of hS (bks := [4, 5, 6, 9]) kr hD) ?_
      intro hH
      refine anyOf (is := [3, 12]) kr (by decide) ?_
      intro i hi
      rcases mem2 hi with rfl | rfl
      ·refine oneOp (by rfl) (plain1 T hS kr kr kr (sv := V (.agg #[.int .i64 cap1.o.States, .int .i64 cap1.o.Kinds, .int .i64 cap1.o.Init, .slice a2 cap1.o.Rows.length c2])) kr ?_)
       intro a hS
       refine andH (Hold.of hS (bks := [4, 5, 6, 9]) kr hD) ?_
       intro hH
       refine only 12 kr (by rfl) (plain1 T hS kr kr kr (sv := Sl a4 cap1.done c4) kr ?_)
       intro a hS
       refine andH (Hold.of hS (bks := [4, 5, 6, 9]) kr hD) ?_
       intro hH
       exact H _ _ ⟨_, hS.sl _, hO, hD, hH, h2, h3, h4, h1, h116⟩
      ·refine oneOp (by rfl) (plain1 T hS kr kr kr (sv := Sl a4 cap1.done c4) kr ?_)
       intro a hS
       refine andH (Hold.of hS (bks := [4, 5, 6, 9]) kr hD) ?_
       intro hH
       refine only 3 kr (by rfl) (plain1 T hS kr kr kr (sv := V (.agg #[.int .i64 cap1.o.States, .int .i64 cap1.o.Kinds, .int .i64 cap1.o.Init, .slice a2 cap1.o.Rows.length c2])) kr ?_)
       intro a hS
       refine andH (Hold.of hS (bks := [4, 5, 6, 9]) kr hD) ?_
       intro hH
       exact H _ _ ⟨_, hS.sl _, hO, hD, hH, h2, h3, h4, h1, h116⟩
     ·refine oneOp (by rfl) (plain1 T hS kr kr kr (sv := Sl a4 cap1.done c4) kr ?_)
      intro a hS
      refine andH (Hold.of hS (bks := [4, 5, 6, 9]) kr hD) ?_
      intro hH
      refine anyOf (is := [3, 7]) kr (by decide) ?_
      intro i hi
      rcases mem2 hi with rfl | rfl
      ·refine oneOp (by rfl) (plain1 T hS kr kr kr (sv := V (.agg #[.int .i64 cap1.o.States, .int .i64 cap1.o.Kinds, .int .i64 cap1.o.Init, .slice a2 cap1.o.Rows.length c2])) kr ?_)
       intro a hS
       refine andH (Hold.of hS (bks := [4, 5, 6, 9]) kr hD) ?_
       intro hH
       refine only 7 kr (by rfl) (plain1 T hS kr kr kr (sv := Sl a3 cap1.l c3) kr ?_)
       intro a hS
       refine andH (Hold.of hS (bks := [4, 5, 6, 9]) kr hD) ?_
       intro hH
       exact H _ _ ⟨_, hS.sl _, hO, hD, hH, h2, h3, h4, h1, h116⟩
      ·refine oneOp (by rfl) (plain1 T hS kr kr kr (sv := Sl a3 cap1.l c3) kr ?_)
       intro a hS
       refine andH (Hold.of hS (bks := [4, 5, 6, 9]) kr hD) ?_
       intro hH
       refine only 3 kr (by rfl) (plain1 T hS kr kr kr (sv := V (.agg #[.int .i64 cap1.o.States, .int .i64 cap1.o.Kinds, .int .i64 cap1.o.Init, .slice a2 cap1.o.Rows.length c2])) kr ?_)
       intro a hS
       refine andH (Hold.of hS (bks := [4, 5, 6, 9]) kr hD) ?_
       intro hH
       exact H _ _ ⟨_, hS.sl _, hO, hD, hH, h2, h3, h4, h1, h116⟩
   ·rintro a w248 ⟨ρ, χ247, x_120, x_121, x_122, x_123, x_127, x_131, x_135, a124, c125, a128, c129, a132, c133, hm, hS, hO, hP, h126, h130, h134, h136⟩
    unfold VC21_J1 at hm
    refine wcut (fun a w => ∃ (ρ : Nat → Nat) (χ : Nat → Nat) (x_139 : List Bool) (x_143 : List (Search_spot × Int)) (a140 : Option Addr) (c141 : Nat), VC21_J2 N Q x_120 x_121 x_122 x_123 x_127 x_139 x_143 ∧ St Try.f21.ntmps ⟨[], [(901, (76, [I x_120, I x_121, I x_122, Sl a124 x_123 c125, Sl a128 x_127 c129, Sl a140 x_139 c141, V (.map (some r5))]))]⟩ ρ a w χ ∧ OldR (f0of [(i1, 901), (m4, 2004), (m5, 2005)]) w0 χ0 w χ ∧ Pin [(901, b1)] ρ ∧ RS tApi_Row w χ a124 x_123 c125 ∧ RS tApi_Oper w χ a128 x_127 c129 ∧ OS tBool 4 w χ 2004 a140 x_139 c141 ∧ OMS kvSearch_spot tI false w χ 2005 r5 x_143) ?_ ?_
    ·refine regO ?_
     refine oP T hS 2 ⟨[(3, Pt 4 0), (8, Pt 9 0), (56, V (.agg #[.int .u32 r112.done, .int .i64 r112.state])), (57, V (.agg #[.int .u32 0, .int .i64 0]))], [(4, (53, [Pt 901 0])), (9, (79, [V (.int .u32 r112.done), I r112.state])), (901, (76, [I x_120, I x_121, I x_122, Sl a124 x_123 c125, Sl a128 x_127 c129, Sl a132 x_131 c133, V (.map (some r5))]))]⟩ fun a hS => ?_
     refine op1 (structEq (op := .neq) (xs := [.int .u32 r112.done, .int .i64 r112.state]) (ys := [.int .u32 0, .int .i64 0]) (r := (r112.done == 0 && (r112.state == 0 && true))) (b := (!(r112.done == 0 && (r112.state == 0 && true)))) T hS kr kr kr kr kr kr kr kr ?_)
     intro a hS
     refine doneK ?_
     refine wcond hS (b := (!(r112.done == 0 && (r112.state == 0 && true)))) kr (fun hb => ?_) (fun hb => ?_)
     ·replace hm := hm.1 hb
      refine drawnX [4, 9, 901] mixed hS ?_
      intro w145 χ146 hS hE hD hH
      replace hO := hO.mv hE rfl rfl
      replace h126 := h126.mv hE rfl
      replace h130 := h130.mv hE rfl
      replace h134 := h134.mv hE rfl rfl
      replace h136 := h136.mv hE rfl rfl
      clear hE
      refine tk T [0, 4, 1, 2, 3] [4, 9, 901] hS hH #[true, true, true, true, true, false, false, false, false, false] 5 ⟨[(62, V (.map (some r5))), (63, V (.agg #[.int .u32 r112.done, .int .i64 r112.state]))], [(4, (53, [Pt 901 0])), (9, (79, [V (.int .u32 r112.done), I r112.state])), (901, (76, [I x_120, I x_121, I x_122, Sl a124 x_123 c125, Sl a128 x_127 c129, Sl a132 x_131 c133, V (.map (some r5))]))]⟩ fun a hS => ?_
      refine drcut (fun a w => ∃ (χ : Nat → Nat) (b158 : Nat), St Try.f21.ntmps ⟨[(62, V (.map (some r5))), (65, I (IntKind.i64.wrap (((mget x_135 r112).getD 0) + 1))), (67, I ((b158 : Nat) : Int))], [(4, (53, [Pt 901 0])), (9, (79, [V (.int .u32 r112.done), I r112.state])), (901, (76, [I x_120, I x_121, I x_122, Sl a124 x_123 c125, Sl a128 x_127 c129, Sl a132 x_131 c133, V (.map (some r5))]))]⟩ ρ a w χ ∧ OldR (f0of [(i1, 901), (m4, 2004), (m5, 2005)]) w0 χ0 w χ ∧ M0 w145 χ146 w χ ∧ Hold w145 χ146 (filt [4, 9, 901] ⟨[(3, Pt 4 0), (8, Pt 9 0)], [(4, (53, [Pt 901 0])), (9, (79, [V (.int .u32 r112.done), I r112.state])), (901, (76, [I x_120, I x_121, I x_122, Sl a124 x_123 c125, Sl a128 x_127 c129, Sl a132 x_131 c133, V (.map (some r5))]))]⟩) ρ w ∧ OME kvSearch_spot tI false w χ 2005 r5 x_135 r112 0 b158 ∧ RS tApi_Row w χ a124 x_123 c125 ∧ RS tApi_Oper w χ a128 x_127 c129 ∧ OS tBool 4 w χ 2004 a132 x_131 c133) #[true, true, true, true, true, true, true, true, true, false] 1 ?_ (fun H => ?_)
      ·rintro a w173 ⟨χ172, b158, hS, hO, hD, hH, h157, h159, h160, h161⟩
       refine only 9 kr (by rfl) (mclS kvSearch_spot tI false (v := I (IntKind.i64.wrap (((mget x_135 r112).getD 0) + 1))) (u := IntKind.i64.wrap (((mget x_135 r112).getD 0) + 1)) r112 hS kr kr kr kr kokSearch_spot kr h157 (fun _ => rfl) ?_)
       intro a w174 hE h175 hS
       clear h157
       replace hO := hO.mv hE rfl rfl
       replace hD := hD.ev hE rfl
       replace h159 := h159.mv hE rfl
       replace h160 := h160.mv hE rfl
       replace h161 := h161.mv hE rfl rfl
       clear hE
       refine andH (Hold.of hS (bks := [4, 9, 901]) kr hD) ?_
       intro hH
       refine drawnDone kr ?_
       clear hD hH
       replace hS := hS.sl ⟨[], [(901, (76, [I x_120, I x_121, I x_122, Sl a124 x_123 c125, Sl a128 x_127 c129, Sl a132 x_131 c133, V (.map (some r5))]))]⟩
       exact ⟨ρ, _, x_131, mput x_135 r112 (IntKind.i64.wrap (((mget x_135 r112).getD 0) + 1)), a132, c133, hm, hS.sl _, hO, hP, h159, h160, h161, h175⟩
      ·clear hm
       refine anyOf (is := [5, 7]) kr (by decide) ?_
       intro i hi
       rcases mem2 hi with rfl | rfl
       ·refine oneOp (by rfl) (mlookS kvSearch_spot tI false (zv := .int .i64 0) (z := 0) r112 hS kr kr kr kr Try.underlying74 kokSearch_spot kr rfl h136 ?_)
        intro v162 a hv hS
        replace hv : tI.R _ _ [v162] _ := hv
        cases hv
        refine andH (Hold.of hS (bks := [4, 9, 901]) kr hD) ?_
        intro hH
        refine tk T [6] [4, 9, 901] hS hH #[true, true, true, true, true, true, true, false, false, false] 3 ⟨[(62, V (.map (some r5))), (63, V (.agg #[.int .u32 r112.done, .int .i64 r112.state])), (65, I (IntKind.i64.wrap (((mget x_135 r112).getD 0) + 1)))], [(4, (53, [Pt 901 0])), (9, (79, [V (.int .u32 r112.done), I r112.state])), (901, (76, [I x_120, I x_121, I x_122, Sl a124 x_123 c125, Sl a128 x_127 c129, Sl a132 x_131 c133, V (.map (some r5))]))]⟩ fun a hS => ?_
        refine only 7 kr (by rfl) (mentS kvSearch_spot tI false (zv := .int .i64 0) (z := 0) r112 hS kr kr kr kr Try.underlying74 kokSearch_spot kr rfl kr h136 ?_)
        intro v163 b164 a w165 hE h166 hv hS
        clear h136
        replace hv : tI.R _ _ [v163] _ := hv
        cases hv
        replace hO := hO.mv hE rfl rfl
        replace hD := hD.ev hE rfl
        replace h126 := h126.mv hE rfl
        replace h130 := h130.mv hE rfl
        replace h134 := h134.mv hE rfl rfl
        clear hE
        refine andH (Hold.of hS (bks := [4, 9, 901]) kr hD) ?_
        intro hH
        refine tk T [8] [4, 9, 901] hS hH #[true, true, true, true, true, true, true, true, true, false] 1 ⟨[(62, V (.map (some r5))), (65, I (IntKind.i64.wrap (((mget x_135 r112).getD 0) + 1))), (67, I ((b164 : Nat) : Int))], [(4, (53, [Pt 901 0])), (9, (79, [V (.int .u32 r112.done), I r112.state])), (901, (76, [I x_120, I x_121, I x_122, Sl a124 x_123 c125, Sl a128 x_127 c129, Sl a132 x_131 c133, V (.map (some r5))]))]⟩ fun a hS => ?_
        exact H _ _ ⟨_, b164, hS.sl _, hO, hD, hH, h166, h126, h130, h134⟩
       ·refine oneOp (by rfl) (mentS kvSearch_spot tI false (zv := .int .i64 0) (z := 0) r112 hS kr kr kr kr Try.underlying74 kokSearch_spot kr rfl kr h136 ?_)
        intro v167 b168 a w169 hE h170 hv hS
        clear h136
        replace hv : tI.R _ _ [v167] _ := hv
        cases hv
        replace hO := hO.mv hE rfl rfl
        replace hD := hD.ev hE rfl
        replace h126 := h126.mv hE rfl
        replace h130 := h130.mv hE rfl
        replace h134 := h134.mv hE rfl rfl
        clear hE
        refine andH (Hold.of hS (bks := [4, 9, 901]) kr hD) ?_
        intro hH
        refine tk T [8] [4, 9, 901] hS hH #[true, true, true, true, true, false, false, true, true, false] 3 ⟨[(62, V (.map (some r5))), (63, V (.agg #[.int .u32 r112.done, .int .i64 r112.state])), (67, I ((b168 : Nat) : Int))], [(4, (53, [Pt 901 0])), (9, (79, [V (.int .u32 r112.done), I r112.state])), (901, (76, [I x_120, I x_121, I x_122, Sl a124 x_123 c125, Sl a128 x_127 c129, Sl a132 x_131 c133, V (.map (some r5))]))]⟩ fun a hS => ?_
        refine only 5 kr (by rfl) (mlookE kvSearch_spot tI false r112 hS kr kr kr kr Try.underlying74 kokSearch_spot h170 ?_)
        intro v171 a hv hS
        replace hv : tI.R _ _ [v171] _ := hv
        cases hv
        refine andH (Hold.of hS (bks := [4, 9, 901]) kr hD) ?_
        intro hH
        refine tk T [6] [4, 9, 901] hS hH #[true, true, true, true, true, true, true, true, true, false] 1 ⟨[(62, V (.map (some r5))), (65, I (IntKind.i64.wrap (((mget x_135 r112).getD 0) + 1))), (67, I ((b168 : Nat) : Int))], [(4, (53, [Pt 901 0])), (9, (79, [V (.int .u32 r112.done), I r112.state])), (901, (76, [I x_120, I x_121, I x_122, Sl a124 x_123 c125, Sl a128 x_127 c129, Sl a132 x_131 c133, V (.map (some r5))]))]⟩ fun a hS => ?_
        exact H _ _ ⟨_, b168, hS.sl _, hO, hD, hH, h170, h126, h130, h134⟩
     ·replace hm := hm.2 hb
      refine wskip ?_
      exact ⟨ρ, _, x_131, x_135, a132, c133, hm, hS.sl _, hO, hP, h126, h130, h134, h136⟩
    ·rintro a w177 ⟨ρ, χ176, x_139, x_143, a140, c141, hm, hS, hO, hP, h137, h138, h142, h144⟩
     unfold VC21_J2 at hm
     refine rP T hS ⟨[(6, V (.slice none 0 0)), (7, B false)], [(901, (76, [I x_120, I x_121, I x_122, Sl a124 x_123 c125, Sl a128 x_127 c129, Sl a140 x_139 c141, V (.map (some r5))]))]⟩ fun a hS => ?_
     refine wret ?_
     exact finR T hS hO (fun c h => f0of_zero kr h) (fun c h => f0of_else (l := [(i1, 901), (m4, 2004), (m5, 2005)]) h) (f1of [(i1, 901), (m4, 2004), (m5, 2005)]) rfl (r := [.slice none 0 0, .bool false]) kr (fun χ' hM hC => ⟨([], false, (⟨(⟨x_120, x_121, x_122, x_123⟩ : Api_Object), x_127, x_139, x_143⟩ : Search_seeker)), hm, none, 0, a124, c125, a128, c129, a140, c141, rfl, RS.empty _ _ _, h137.m0 hM, h138.m0 hM, (OS.out (f := (f1of [(i1, 901), (m4, 2004), (m5, 2005)])) h142 hM hC kr), ((hS.cell (id := 901) (t := 76) (cs := [I x_120, I x_121, I x_122, Sl a124 x_123 c125, Sl a128 x_127 c129, Sl a140 x_139 c141, V (.map (some r5))]) kr).out (f := (f1of [(i1, 901), (m4, 2004), (m5, 2005)])) hC kr kr (hP.at 0 rfl)), (h144.out (f := (f1of [(i1, 901), (m4, 2004), (m5, 2005)])) hM hC kr kr)⟩)
theorem C21 (N : Nat) (k18 : S18) (k34 : S34) (k35 : S35) (k36 : S36N N) (v : ∀ (state : Int) (so : List Api_Pick) (cap1 : Search_seeker), preFi state so cap1 → mFirst state so cap1 < N + 1 → VC21 N state so cap1 (fun r => r = search_seeker_first state so cap1)) : S21N (N + 1) := by
 intro w χ state so cap1 a1 c1 a2 c2 a3 c3 a4 c4 m4 r5 m5  b1 i1 hp hms h1 h2 h3 h4 h5 hc1 hA
 refine (W21 N k18 k34 k35 k36 w χ state so cap1 a1 c1 a2 c2 a3 c3 a4 c4 m4 r5 m5  b1 i1 _ (v state so cap1 hp hms) h1 h2 h3 h4 h5 hc1 hA).mono ?_
 rintro _ _ _ _ ⟨r, rfl, h⟩
 exact h
/-- (*replevin/search.seeker).all -/
theorem W22 (N : Nat) (k18 : S18) (k22 : S22N N) (k32 : S32) (k34 : S34) (w0 : World) (χ0 : Nat → Nat) (state : Int) (cap1 : Search_seeker) (a1 : Option Addr) (c1 : Nat) (a2 : Option Addr) (c2 : Nat) (a3 : Option Addr) (c3 : Nat) (m3 : Nat) (r4 : Nat) (m4 : Nat) (b1 : Nat) (i1 : Nat) (Q : Int × Search_seeker → Prop) (hm : VC22 N state cap1 Q) (h1 : RS tApi_Row w0 χ0 a1 cap1.o.Rows c1) (h2 : RS tApi_Oper w0 χ0 a2 cap1.l c2) (h3 : OS tBool 4 w0 χ0 m3 a3 cap1.done c3) (h4 : OMS kvSearch_spot tI false w0 χ0 m4 r4 cap1.failed) (hc1 : Cell w0 χ0 b1 i1 76 [.int .i64 cap1.o.States, .int .i64 cap1.o.Kinds, .int .i64 cap1.o.Init, .slice a1 cap1.o.Rows.length c1, .slice a2 cap1.l.length c2, .slice a3 cap1.done.length c3, .map (some r4)]) (hA : Apart [i1, m3, m4]) :
  Ret Try.prog 22 #[.pointer (some ⟨b1, 0, none⟩), .int .i64 state] (pR [i1, m3, m4]) w0 χ0 (fun w χ' v => ∃ r, Q r ∧ ∃ (ra1 : Option Addr) (rc1 : Nat) (ra2 : Option Addr) (rc2 : Nat) (ra3 : Option Addr) (rc3 : Nat), v = .int .i64 r.1 ∧ RS tApi_Row w χ' ra1 r.2.o.Rows rc1 ∧ RS tApi_Oper w χ' ra2 r.2.l rc2 ∧ OS tBool 4 w χ' m3 ra3 r.2.done rc3 ∧ Cell w χ' b1 i1 76 [.int .i64 r.2.o.States, .int .i64 r.2.o.Kinds, .int .i64 r.2.o.Init, .slice ra1 r.2.o.Rows.length rc1, .slice ra2 r.2.l.length rc2, .slice ra3 r.2.done.length rc3, .map (some r4)] ∧ OMS kvSearch_spot tI false w χ' m4 r4 r.2.failed) := by
 unfold VC22 at hm
 replace hm := hm (h1.sm kr)
 replace hm := hm (h2.sm kr)
 replace hm := hm (h3.sm kr)
 refine enterR Try.func22 rfl (f0of [(i1, 901), (m3, 2003), (m4, 2004)]) (fun id => (bif Nat.beq id 901 then b1 else 0)) (args := [Pt 901 0, I state]) (bxs := [(901, (76, [I cap1.o.States, I cap1.o.Kinds, I cap1.o.Init, Sl a1 cap1.o.Rows c1, Sl a2 cap1.l c2, Sl a3 cap1.done c3, V (.map (some r4))]))]) kr rfl (BoxesOK.cons kr (hc1.map (f0of_at 0 hA.1 rfl)) BoxesOK.nil) (f0of_0 (fun q hq => (hA.2 q.1 (List.mem_map.2 ⟨q, hq, rfl⟩)).1)) ?_
 intro a hS hO hM
 have hP : Pin [(901, b1)] (fun id => (bif Nat.beq id 901 then b1 else 0)) := by intro q hq; simp at hq; rcases hq with rfl <;> rfl
 generalize (fun id => (bif Nat.beq id 901 then b1 else 0)) = ρ at hS hP
 clear hc1
 replace h1 := h1.m0 hM
 replace h2 := h2.m0 hM
 replace h3 := h3.map (f := f0of [(i1, 901), (m3, 2003), (m4, 2004)]) (f0of_at 1 hA.1 rfl) hM
 replace h4 := h4.map (f := f0of [(i1, 901), (m3, 2003), (m4, 2004)]) (f0of_at 2 hA.1 rfl) hM
 clear hM
 refine rP T hS ⟨[(0, Pt 901 0), (1, I state)], [(901, (76, [I cap1.o.States, I cap1.o.Kinds, I cap1.o.Init, Sl a1 cap1.o.Rows c1, Sl a2 cap1.l c2, Sl a3 cap1.done c3, V (.map (some r4))]))]⟩ fun a hS => ?_
 refine rP T hS ⟨[(0, Pt 901 0), (1, I state), (5, I 0)], [(901, (76, [I cap1.o.States, I cap1.o.Kinds, I cap1.o.Init, Sl a1 cap1.o.Rows c1, Sl a2 cap1.l c2, Sl a3 cap1.done c3, V (.map (some r4))]))]⟩ fun a hS => ?_
 refine wcut (fun a w => ∃ (ρ : Nat → Nat) (χ : Nat → Nat) (n_101 : Int) (x_104 : List Bool) (a105 : Option Addr) (c106 : Nat), VC22_J1 N state cap1 Q n_101 x_104 ∧ St Try.f22.ntmps ⟨[(0, Pt 901 0), (1, I state), (5, I n_101)], [(901, (76, [I cap1.o.States, I cap1.o.Kinds, I cap1.o.Init, Sl a1 cap1.o.Rows c1, Sl a2 cap1.l c2, Sl a105 x_104 c106, V (.map (some r4))]))]⟩ ρ a w χ ∧ OldR (f0of [(i1, 901), (m3, 2003), (m4, 2004)]) w0 χ0 w χ ∧ Pin [(901, b1)] ρ ∧ RS tApi_Row w χ a1 cap1.o.Rows c1 ∧ RS tApi_Oper w χ a2 cap1.l c2 ∧ OS tBool 4 w χ 2003 a105 x_104 c106 ∧ OMS kvSearch_spot tI false w χ 2004 r4 cap1.failed) ?_ ?_
 ·refine regO ?_
  refine oP T hS 1 ⟨[(0, Pt 901 0), (1, I state), (5, I 0), (11, Pt 901 0)], [(901, (76, [I cap1.o.States, I cap1.o.Kinds, I cap1.o.Init, Sl a1 cap1.o.Rows c1, Sl a2 cap1.l c2, Sl a3 cap1.done c3, V (.map (some r4))]))]⟩ fun a hS => ?_
  have hb218 := (hS.cell (id := 901) (t := 76) (cs := [I cap1.o.States, I cap1.o.Kinds, I cap1.o.Init, Sl a1 cap1.o.Rows c1, Sl a2 cap1.l c2, Sl a3 cap1.done c3, V (.map (some r4))]) kr)
  have ho219 := h4
  obtain ⟨hq, hm⟩ := hm
  refine op1 (callR hS kr kr hb34 kr (Ret.unlendR kr (k34 _ (lend 2003 _) cap1 a1 c1 a2 c2 a3 c3 r4 2004 (ρ 901) 901 hq (h1.m0 (M0.lend 2003)) (h2.m0 (M0.lend 2003)) h3.lend (h4.lendK kr) (hb218.lend kr) ⟨by decide, by decide⟩)) ?_)
  intro v214 a w215 χ216 hE hp hS
  clear hq
  clear h4
  replace hO := hO.mv hE rfl rfl
  replace h1 := h1.mv hE rfl
  replace h2 := h2.mv hE rfl
  replace h3 := h3.mv hE rfl rfl
  clear hE
  obtain ⟨hkeep, _, hp⟩ := hp
  obtain ⟨hp, hc220, h221⟩ := hp
  replace hc220 := hc220.back hb218 hkeep
  replace h221 := h221.back ho219 hkeep (fun h => h)
  clear hkeep hb218 ho219
  obtain ⟨r217, hr⟩ : ∃ r, search_seeker_whole cap1 = r := ⟨_, rfl⟩
  replace hm := hm r217 hr
  rw [hr] at hp
  clear hr
  subst hp
  replace hS := hS.addbox (id := 901) (t := 76) (cs := [I cap1.o.States, I cap1.o.Kinds, I cap1.o.Init, Sl a1 cap1.o.Rows c1, Sl a2 cap1.l c2, Sl a3 cap1.done c3, V (.map (some r4))]) kr hc220
  clear hc220
  refine doneK ?_
  refine wcond hS (b := r217) kr (fun hb => ?_) (fun hb => ?_)
  ·replace hm := hm.1 hb
   refine region (eP T hS ⟨[(0, Pt 901 0), (1, I state), (5, I 1)], [(901, (76, [I cap1.o.States, I cap1.o.Kinds, I cap1.o.Init, Sl a1 cap1.o.Rows c1, Sl a2 cap1.l c2, Sl a3 cap1.done c3, V (.map (some r4))]))]⟩ fun a hS => ?_)
   exact ⟨ρ, _, 1, cap1.done, a3, c3, hm, hS.sl _, hO, hP, h1, h2, h3, h221⟩
  ·replace hm := hm.2 hb
   refine wskip ?_
   exact ⟨ρ, _, 0, cap1.done, a3, c3, hm, hS.sl _, hO, hP, h1, h2, h3, h221⟩
 ·rintro a w223 ⟨ρ, χ222, n_101, x_104, a105, c106, hm, hS, hO, hP, h102, h103, h107, h108⟩
  unfold VC22_J1 at hm
  refine wcut (fun a w => ∃ (ρ : Nat → Nat) (χ : Nat → Nat) (n_109 : Int) (x_110 : Int) (x_111 : Int) (x_112 : Int) (x_113 : List Api_Row) (x_117 : List Api_Oper) (x_121 : List Bool) (x_125 : List (Search_spot × Int)) (a114 : Option Addr) (c115 : Nat) (a118 : Option Addr) (c119 : Nat) (a122 : Option Addr) (c123 : Nat), VC22_J2 N Q n_109 x_110 x_111 x_112 x_113 x_117 x_121 x_125 ∧ St Try.f22.ntmps ⟨[(5, I n_109)], [(901, (76, [I x_110, I x_111, I x_112, Sl a114 x_113 c115, Sl a118 x_117 c119, Sl a122 x_121 c123, V (.map (some r4))]))]⟩ ρ a w χ ∧ OldR (f0of [(i1, 901), (m3, 2003), (m4, 2004)]) w0 χ0 w χ ∧ Pin [(901, b1)] ρ ∧ RS tApi_Row w χ a114 x_113 c115 ∧ RS tApi_Oper w χ a118 x_117 c119 ∧ OS tBool 4 w χ 2003 a122 x_121 c123 ∧ OMS kvSearch_spot tI false w χ 2004 r4 x_125) ?_ ?_
  ·refine drawnSX [901] mixed hS ?_
   intro w127 χ128 hS hE hD hH
   replace hO := hO.mv hE rfl rfl
   replace h102 := h102.mv hE rfl
   replace h103 := h103.mv hE rfl
   replace h107 := h107.mv hE rfl rfl
   replace h108 := h108.mv hE rfl rfl
   clear hE
   refine tk T [0, 4, 8, 9, 15, 1, 5, 10, 2, 6, 11, 3, 7, 12] [901] hS hH #[true, true, true, true, true, true, true, true, true, true, true, true, true, false, false, true] 2 ⟨[(0, Pt 901 0), (1, I state), (5, I n_101), (16, V (.agg #[.int .i64 cap1.o.States, .int .i64 cap1.o.Kinds, .int .i64 cap1.o.Init, .slice a1 cap1.o.Rows.length c1])), (20, Sl a2 cap1.l c2), (21, I state), (25, Sl a105 x_104 c106), (28, I 0)], [(901, (76, [I cap1.o.States, I cap1.o.Kinds, I cap1.o.Init, Sl a1 cap1.o.Rows c1, Sl a2 cap1.l c2, Sl a105 x_104 c106, V (.map (some r4))]))]⟩ fun a hS => ?_
   obtain ⟨hq, hm⟩ := hm
   refine only 13 kr (by rfl) (call hS kr kr hb18 kr (fun _ _ => rfl) (Ret.unlendO (k18 _ (lend 2003 _) cap1.o cap1.l state x_104 a1 c1 a2 c2 a105 c106 4135 hq (h102.m0 (M0.lend 2003)) (h103.m0 (M0.lend 2003)) h107.lend)) ?_)
   intro v129 a w130 χ131 hE hp hS
   clear hq
   replace hO := hO.mv hE rfl rfl
   replace hD := hD.ev hE rfl
   replace h102 := h102.mv hE rfl
   replace h103 := h103.mv hE rfl
   replace h107 := h107.mv hE rfl rfl
   replace h108 := h108.mv hE rfl rfl
   clear hE
   obtain ⟨_, hback, hp⟩ := hp
   obtain ⟨a133, c134, hp, h135⟩ := hp
   replace h135 := h135.backO hback kr (fun h => h)
   clear hback
   obtain ⟨r132, hr⟩ : ∃ r, search_Next cap1.o cap1.l state x_104 = r := ⟨_, rfl⟩
   replace hm := hm r132 hr
   rw [hr] at hp h135
   clear hr
   subst hp
   replace hm := hm (h135.sm kr)
   replace hS := hS.sl ⟨[(0, Pt 901 0), (1, I state), (5, I n_101), (16, V (.agg #[.int .i64 cap1.o.States, .int .i64 cap1.o.Kinds, .int .i64 cap1.o.Init, .slice a1 cap1.o.Rows.length c1])), (20, Sl a2 cap1.l c2), (21, I state), (25, Sl a105 x_104 c106), (28, I 0), (26, Sl a133 r132 c134)], [(901, (76, [I cap1.o.States, I cap1.o.Kinds, I cap1.o.Init, Sl a1 cap1.o.Rows c1, Sl a2 cap1.l c2, Sl a105 x_104 c106, V (.map (some r4))]))]⟩
   refine andH (Hold.of hS (bks := [901]) kr hD) ?_
   intro hH
   refine tk T [14] [901] hS hH #[true, true, true, true, true, true, true, true, true, true, true, true, true, true, true, true] 0 ⟨[(0, Pt 901 0), (1, I state), (5, I n_101), (26, Sl a133 r132 c134), (27, I ((r132.length : Nat) : Int)), (28, I 0)], [(901, (76, [I cap1.o.States, I cap1.o.Kinds, I cap1.o.Init, Sl a1 cap1.o.Rows c1, Sl a2 cap1.l c2, Sl a105 x_104 c106, V (.map (some r4))]))]⟩ fun a hS => ?_
   refine drawnDone kr ?_
   clear hD hH
   replace hS := hS.sl ⟨[(0, Pt 901 0), (1, I state), (5, I n_101), (26, Sl a133 r132 c134), (27, I ((r132.length : Nat) : Int)), (28, I 0)], [(901, (76, [I cap1.o.States, I cap1.o.Kinds, I cap1.o.Init, Sl a1 cap1.o.Rows c1, Sl a2 cap1.l c2, Sl a105 x_104 c106, V (.map (some r4))]))]⟩
   refine wblock ?_
   obtain ⟨I1, μ1, hm0, hm⟩ := hm
   refine wloop (σ := Int × (List Api_Pick) × Int × Int × Int × Int × (List Api_Row) × (List Api_Oper) × (List Bool) × (List (Search_spot × Int))) (fun s a w => ∃ (ρ : Nat → Nat) (χ : Nat → Nat) (a138 : Option Addr) (c139 : Nat) (a146 : Option Addr) (c147 : Nat) (a150 : Option Addr) (c151 : Nat) (a154 : Option Addr) (c155 : Nat), I1 s.1 s.2.1 s.2.2.1 s.2.2.2.1 s.2.2.2.2.1 s.2.2.2.2.2.1 s.2.2.2.2.2.2.1 s.2.2.2.2.2.2.2.1 s.2.2.2.2.2.2.2.2.1 s.2.2.2.2.2.2.2.2.2 ∧ St Try.f22.ntmps ⟨[(0, Pt 901 0), (1, I state), (5, I s.1), (26, Sl a138 s.2.1 c139), (27, I ((r132.length : Nat) : Int)), (28, I s.2.2.1)], [(901, (76, [I s.2.2.2.1, I s.2.2.2.2.1, I s.2.2.2.2.2.1, Sl a146 s.2.2.2.2.2.2.1 c147, Sl a150 s.2.2.2.2.2.2.2.1 c151, Sl a154 s.2.2.2.2.2.2.2.2.1 c155, V (.map (some r4))]))]⟩ ρ a w χ ∧ OldR (f0of [(i1, 901), (m3, 2003), (m4, 2004)]) w0 χ0 w χ ∧ Pin [(901, b1)] ρ ∧ OS tApi_Pick 51 w χ 4135 a138 s.2.1 c139 ∧ RS tApi_Row w χ a146 s.2.2.2.2.2.2.1 c147 ∧ RS tApi_Oper w χ a150 s.2.2.2.2.2.2.2.1 c151 ∧ OS tBool 4 w χ 2003 a154 s.2.2.2.2.2.2.2.2.1 c155 ∧ OMS kvSearch_spot tI false w χ 2004 r4 s.2.2.2.2.2.2.2.2.2) (fun s => μ1 s.1 s.2.1 s.2.2.1 s.2.2.2.1 s.2.2.2.2.1 s.2.2.2.2.2.1 s.2.2.2.2.2.2.1 s.2.2.2.2.2.2.2.1 s.2.2.2.2.2.2.2.2.1 s.2.2.2.2.2.2.2.2.2) (⟨n_101, r132, 0, cap1.o.States, cap1.o.Kinds, cap1.o.Init, cap1.o.Rows, cap1.l, x_104, cap1.failed⟩) ?_ ?_
   ·exact ⟨ρ, _, a133, c134, a1, c1, a2, c2, a105, c106, hm0, hS.sl _, hO, hP, h135, h102, h103, h107, h108⟩
   ·rintro ⟨n_136, x_137, x_141, x_142, x_143, x_144, x_145, x_149, x_153, x_157⟩ a w211 ⟨ρ, χ210, a138, c139, a146, c147, a150, c151, a154, c155, hI, hS, hO, hP, h140, h148, h152, h156, h158⟩
    replace hm := hm n_136 x_137 x_141 x_142 x_143 x_144 x_145 x_149 x_153 x_157 hI
    clear hI hm0
    refine rP T hS ⟨[(0, Pt 901 0), (1, I state), (5, I n_136), (26, Sl a138 x_137 c139), (27, I ((r132.length : Nat) : Int)), (28, I x_141), (29, B (decide (x_141 < ((r132.length : Nat) : Int))))], [(901, (76, [I x_142, I x_143, I x_144, Sl a146 x_145 c147, Sl a150 x_149 c151, Sl a154 x_153 c155, V (.map (some r4))]))]⟩ fun a hS => ?_
    refine wseq ?_
    refine wcond hS (b := decide (x_141 < ((r132.length : Nat) : Int))) kr (fun hb => ?_) (fun hb => ?_)
    ·replace hm := hm.1 hb
     refine wskip ?_
     refine wseq ?_
     refine wblock ?_
     refine regO ?_
     obtain ⟨hq162, hm⟩ := hm
     refine op1 (indexX (E := 51) (k := .i64) T hS kr kr kr kr h140 kr kr hq162.1 hq162.2 ?_)
     intro A159 a h161 h160 hS
     refine op1 (loadAX T hS kr kr kr h160 kr kr ?_)
     intro v163 a hv hS
     subst hv
     refine eM T hS ⟨[(0, Pt 901 0), (1, I state), (5, I n_136), (7, Pt 8 0), (26, Sl a138 x_137 c139), (27, I ((r132.length : Nat) : Int)), (28, I x_141)], [(8, (51, [I ((gi x_137 x_141).Oper), I ((gi x_137 x_141).Result)])), (901, (76, [I x_142, I x_143, I x_144, Sl a146 x_145 c147, Sl a150 x_149 c151, Sl a154 x_153 c155, V (.map (some r4))]))]⟩ fun ρ a w208 χ209 hS hE hr => ?_
     replace hO := hO.mv hE rfl rfl
     replace h140 := h140.mv hE rfl rfl
     replace h148 := h148.mv hE rfl
     replace h152 := h152.mv hE rfl
     replace h156 := h156.mv hE rfl rfl
     replace h158 := h158.mv hE rfl rfl
     replace hP := hP.mv hr kr
     clear hE hr
     refine drawnSX [8, 901] mixed hS ?_
     intro w164 χ165 hS hE hD hH
     replace hO := hO.mv hE rfl rfl
     replace h140 := h140.mv hE rfl rfl
     replace h148 := h148.mv hE rfl
     replace h152 := h152.mv hE rfl
     replace h156 := h156.mv hE rfl rfl
     replace h158 := h158.mv hE rfl rfl
     clear hE
     refine tk T [0, 4, 5, 9, 1, 6, 10, 2, 7, 3, 8] [8, 901] hS hH #[true, true, true, true, true, true, true, true, true, true, true, false, false, false, false, false, false, false, false, false, false, false] 11 ⟨[(0, Pt 901 0), (1, I state), (5, I n_136), (7, Pt 8 0), (26, Sl a138 x_137 c139), (27, I ((r132.length : Nat) : Int)), (28, I x_141), (36, V (.agg #[.int .i64 x_142, .int .i64 x_143, .int .i64 x_144, .slice a146 x_145.length c147])), (37, I state), (41, Sl a150 x_149 c151), (43, I ((gi x_137 x_141).Oper))], [(8, (51, [I ((gi x_137 x_141).Oper), I ((gi x_137 x_141).Result)])), (901, (76, [I x_142, I x_143, I x_144, Sl a146 x_145 c147, Sl a150 x_149 c151, Sl a154 x_153 c155, V (.map (some r4))]))]⟩ fun a hS => ?_
     obtain ⟨hq, hm⟩ := hm
     refine dindex (e := 45) (k := .i64) T 11 hS kr kr kr (by rfl) kr hH kr kr h152 kr kr hq.1 hq.2 ?_
     intro A166 a h167 hS
     clear hq
     have h167b := h167.here
     refine dfieldA (off := 1) (fsz := 1) (ft := 3) (TF := tI) (y := (gi x_149 ((gi x_137 x_141).Oper)).Kind) 12 T hS kr kr kr (by rfl) kr hH kr h167 kr kr kr (fun cs h => Api_Oper_f1 h) ?_
     intro A168 a h169 hbl hS
     have h169b := h167b
     rw [← hbl] at h169b
     clear hbl
     refine dload1 T 13 hS kr kr kr (by rfl) kr hH kr h169 h169b rfl kr ?_
     intro v170 a hv hS
     cases hv
     refine only 14 kr (by rfl) (call hS kr kr hb32 kr (fun _ _ => rfl) (k32 _ _ (⟨x_142, x_143, x_144, x_145⟩ : Api_Object) state ((gi x_149 ((gi x_137 x_141).Oper)).Kind) a146 c147 h148) ?_)
     intro v171 a w172 χ173 hE hp hS
     replace hO := hO.mv hE rfl rfl
     replace hD := hD.ev hE rfl
     replace h140 := h140.mv hE rfl rfl
     replace h148 := h148.mv hE rfl
     replace h152 := h152.mv hE rfl
     replace h156 := h156.mv hE rfl rfl
     replace h158 := h158.mv hE rfl rfl
     replace h167 := h167.mv hE rfl
     replace h169 := h169.mv hE rfl
     clear hE
     obtain ⟨r174, hr⟩ : ∃ r, object_Move (⟨x_142, x_143, x_144, x_145⟩ : Api_Object) state ((gi x_149 ((gi x_137 x_141).Oper)).Kind) = r := ⟨_, rfl⟩
     replace hm := hm r174 hr
     rw [hr] at hp
     clear hr
     subst hp
     replace hS := hS.sl ⟨[(0, Pt 901 0), (1, I state), (5, I n_136), (7, Pt 8 0), (26, Sl a138 x_137 c139), (27, I ((r132.length : Nat) : Int)), (28, I x_141), (36, V (.agg #[.int .i64 x_142, .int .i64 x_143, .int .i64 x_144, .slice a146 x_145.length c147])), (37, I state), (41, Sl a150 x_149 c151), (43, I ((gi x_137 x_141).Oper)), (44, V (.pointer (some A166))), (45, V (.pointer (some A168))), (46, I ((gi x_149 ((gi x_137 x_141).Oper)).Kind)), (47, V (.tuple #[.int .i64 r174.1, .int .i64 r174.2.1, .bool r174.2.2]))], [(8, (51, [I ((gi x_137 x_141).Oper), I ((gi x_137 x_141).Result)])), (901, (76, [I x_142, I x_143, I x_144, Sl a146 x_145 c147, Sl a150 x_149 c151, Sl a154 x_153 c155, V (.map (some r4))]))]⟩
     refine andH (Hold.of hS (bks := [8, 901]) kr hD) ?_
     intro hH
     refine tk T [15, 16, 17, 18, 19, 20, 21] [8, 901] hS hH #[true, true, true, true, true, true, true, true, true, true, true, true, true, true, true, true, true, true, true, true, true, true] 0 ⟨[(0, Pt 901 0), (1, I state), (5, I n_136), (7, Pt 8 0), (8, I r174.1), (26, Sl a138 x_137 c139), (27, I ((r132.length : Nat) : Int)), (28, I x_141)], [(8, (51, [I ((gi x_137 x_141).Oper), I ((gi x_137 x_141).Result)])), (901, (76, [I x_142, I x_143, I x_144, Sl a146 x_145 c147, Sl a150 x_149 c151, Sl a154 x_153 c155, V (.map (some r4))]))]⟩ fun a hS => ?_
     refine drawnDone kr ?_
     clear hD hH
     replace hS := hS.sl ⟨[(0, Pt 901 0), (1, I state), (5, I n_136), (7, Pt 8 0), (8, I r174.1), (26, Sl a138 x_137 c139), (27, I ((r132.length : Nat) : Int)), (28, I x_141)], [(8, (51, [I ((gi x_137 x_141).Oper), I ((gi x_137 x_141).Result)])), (901, (76, [I x_142, I x_143, I x_144, Sl a146 x_145 c147, Sl a150 x_149 c151, Sl a154 x_153 c155, V (.map (some r4))]))]⟩
     refine drawnSX [8, 901] mixed hS ?_
     intro w175 χ176 hS hE hD hH
     replace hO := hO.mv hE rfl rfl
     replace h140 := h140.mv hE rfl rfl
     replace h148 := h148.mv hE rfl
     replace h152 := h152.mv hE rfl
     replace h156 := h156.mv hE rfl rfl
     replace h158 := h158.mv hE rfl rfl
     clear hE
     refine tk T [0, 4, 1, 5, 2, 3] [8, 901] hS hH #[true, true, true, true, true, true, false, false] 2 ⟨[(0, Pt 901 0), (1, I state), (5, I n_136), (7, Pt 8 0), (8, I r174.1), (26, Sl a138 x_137 c139), (27, I ((r132.length : Nat) : Int)), (28, I x_141), (54, Sl a154 x_153 c155), (56, I ((gi x_137 x_141).Oper))], [(8, (51, [I ((gi x_137 x_141).Oper), I ((gi x_137 x_141).Result)])), (901, (76, [I x_142, I x_143, I x_144, Sl a146 x_145 c147, Sl a150 x_149 c151, Sl a154 x_153 c155, V (.map (some r4))]))]⟩ fun a hS => ?_
     obtain ⟨hq180, hm⟩ := hm
     refine only 6 kr (by rfl) (indexX (E := 4) (k := .i64) T hS kr kr kr kr h156 kr kr hq180.1 hq180.2 ?_)
     intro A177 a h179 h178 hS
     refine andH (Hold.of hS (bks := [8, 901]) kr hD) ?_
     intro hH
     refine only 7 kr (by rfl) (storeO (x := true) (v := B true) (i := ((gi x_137 x_141).Oper).toNat) (E := 4) (xs := x_153) T hS kr kr kr kr h156 h179 (by have := hq180.1; have := hq180.2; omega) kr (fun _ _ _ => rfl) ?_)
     intro a w181 hE h182 hS
     clear h156 h179 h178 hq180
     replace hO := hO.mv hE rfl rfl
     replace hD := hD.ev hE rfl
     replace h140 := h140.mv hE rfl rfl
     replace h148 := h148.mv hE rfl
     replace h152 := h152.mv hE rfl
     replace h158 := h158.mv hE rfl rfl
     clear hE
     replace hS := hS.conv (t := 54) (y := .slice a154 (x_153.set ((gi x_137 x_141).Oper).toNat true).length c155) kr (by rw [List.length_set])
     refine andH (Hold.of hS (bks := [8, 901]) kr hD) ?_
     intro hH
     have hx183 := hS.cell (id := 901) (t := 76) (cs := [I x_142, I x_143, I x_144, Sl a146 x_145 c147, Sl a150 x_149 c151, Sl a154 x_153 c155, V (.map (some r4))]) kr
     replace hx183 := hx183.conv (vals' := [.int .i64 x_142, .int .i64 x_143, .int .i64 x_144, .slice a146 x_145.length c147, .slice a150 x_149.length c151, .slice a154 (x_153.set ((gi x_137 x_141).Oper).toNat true).length c155, .map (some r4)]) (by rw [List.length_set]; rfl)
     replace hS := hS.addbox (id := 901) (t := 76) (cs := [I x_142, I x_143, I x_144, Sl a146 x_145 c147, Sl a150 x_149 c151, Sl a154 (x_153.set ((gi x_137 x_141).Oper).toNat true) c155, V (.map (some r4))]) kr hx183
     clear hx183
     refine drawnDone kr ?_
     clear hD hH
     replace hS := hS.sl ⟨[(0, Pt 901 0), (1, I state), (5, I n_136), (7, Pt 8 0), (8, I r174.1), (26, Sl a138 x_137 c139), (27, I ((r132.length : Nat) : Int)), (28, I x_141)], [(8, (51, [I ((gi x_137 x_141).Oper), I ((gi x_137 x_141).Result)])), (901, (76, [I x_142, I x_143, I x_144, Sl a146 x_145 c147, Sl a150 x_149 c151, Sl a154 (x_153.set ((gi x_137 x_141).Oper).toNat true) c155, V (.map (some r4))]))]⟩
     refine regO ?_
     refine oP T hS 3 ⟨[(0, Pt 901 0), (1, I state), (5, I n_136), (7, Pt 8 0), (26, Sl a138 x_137 c139), (27, I ((r132.length : Nat) : Int)), (28, I x_141), (58, I n_136), (59, Pt 901 0), (60, I r174.1)], [(8, (51, [I ((gi x_137 x_141).Oper), I ((gi x_137 x_141).Result)])), (901, (76, [I x_142, I x_143, I x_144, Sl a146 x_145 c147, Sl a150 x_149 c151, Sl a154 (x_153.set ((gi x_137 x_141).Oper).toNat true) c155, V (.map (some r4))]))]⟩ fun a hS => ?_
     obtain ⟨hq, hm⟩ := hm
     refine op1 (callR hS kr kr hb22 kr (k22 _ _ r174.1 (⟨(⟨x_142, x_143, x_144, x_145⟩ : Api_Object), x_149, (x_153.set ((gi x_137 x_141).Oper).toNat true), x_157⟩ : Search_seeker) a146 c147 a150 c151 a154 c155 2003 r4 2004 (ρ 901) 901 hq.1 hq.2 h148 h152 h182 h158 (hS.cell (id := 901) (t := 76) (cs := [I x_142, I x_143, I x_144, Sl a146 x_145 c147, Sl a150 x_149 c151, Sl a154 (x_153.set ((gi x_137 x_141).Oper).toNat true) c155, V (.map (some r4))]) kr) ⟨by decide, by decide⟩) ?_)
     intro v184 a w185 χ186 hE hp hS
     clear hq
     clear h158
     clear h182
     replace hO := hO.mv hE rfl rfl
     replace h140 := h140.mv hE rfl rfl
     replace h148 := h148.mv hE rfl
     replace h152 := h152.mv hE rfl
     clear hE
     obtain ⟨a188, c189, a191, c192, a194, c195, hp, h190, h193, h196, hc198, h197⟩ := hp
     obtain ⟨r187, hr⟩ : ∃ r, search_seeker_all r174.1 (⟨(⟨x_142, x_143, x_144, x_145⟩ : Api_Object), x_149, (x_153.set ((gi x_137 x_141).Oper).toNat true), x_157⟩ : Search_seeker) = r := ⟨_, rfl⟩
     replace hm := hm r187 hr
     rw [hr] at hp h190 h193 h196 hc198 h197
     clear hr
     subst hp
     replace hm := hm (h190.sm kr)
     replace hm := hm (h193.sm kr)
     replace hm := hm (h196.sm kr)
     replace hS := hS.addbox (id := 901) (t := 76) (cs := [I r187.2.o.States, I r187.2.o.Kinds, I r187.2.o.Init, Sl a188 r187.2.o.Rows c189, Sl a191 r187.2.l c192, Sl a194 r187.2.done c195, V (.map (some r4))]) kr hc198
     clear hc198
     refine eP T hS ⟨[(0, Pt 901 0), (1, I state), (5, I (IntKind.i64.wrap (n_136 + r187.1))), (7, Pt 8 0), (26, Sl a138 x_137 c139), (27, I ((r132.length : Nat) : Int)), (28, I x_141)], [(8, (51, [I ((gi x_137 x_141).Oper), I ((gi x_137 x_141).Result)])), (901, (76, [I r187.2.o.States, I r187.2.o.Kinds, I r187.2.o.Init, Sl a188 r187.2.o.Rows c189, Sl a191 r187.2.l c192, Sl a194 r187.2.done c195, V (.map (some r4))]))]⟩ fun a hS => ?_
     refine drawnX [8, 901] mixed hS ?_
     intro w199 χ200 hS hE hD hH
     replace hO := hO.mv hE rfl rfl
     replace h140 := h140.mv hE rfl rfl
     replace h197 := h197.mv hE rfl rfl
     replace h190 := h190.mv hE rfl
     replace h193 := h193.mv hE rfl
     replace h196 := h196.mv hE rfl rfl
     clear hE
     refine tk T [0, 4, 1, 5, 2, 3] [8, 901] hS hH #[true, true, true, true, true, true, false, false] 2 ⟨[(0, Pt 901 0), (1, I state), (5, I (IntKind.i64.wrap (n_136 + r187.1))), (26, Sl a138 x_137 c139), (27, I ((r132.length : Nat) : Int)), (28, I x_141), (66, Sl a194 r187.2.done c195), (68, I ((gi x_137 x_141).Oper))], [(8, (51, [I ((gi x_137 x_141).Oper), I ((gi x_137 x_141).Result)])), (901, (76, [I r187.2.o.States, I r187.2.o.Kinds, I r187.2.o.Init, Sl a188 r187.2.o.Rows c189, Sl a191 r187.2.l c192, Sl a194 r187.2.done c195, V (.map (some r4))]))]⟩ fun a hS => ?_
     obtain ⟨hq204, hm⟩ := hm
     refine only 6 kr (by rfl) (indexX (E := 4) (k := .i64) T hS kr kr kr kr h196 kr kr hq204.1 hq204.2 ?_)
     intro A201 a h203 h202 hS
     refine andH (Hold.of hS (bks := [8, 901]) kr hD) ?_
     intro hH
     refine only 7 kr (by rfl) (storeO (x := false) (v := B false) (i := ((gi x_137 x_141).Oper).toNat) (E := 4) (xs := r187.2.done) T hS kr kr kr kr h196 h203 (by have := hq204.1; have := hq204.2; omega) kr (fun _ _ _ => rfl) ?_)
     intro a w205 hE h206 hS
     clear h196 h203 h202 hq204
     replace hO := hO.mv hE rfl rfl
     replace hD := hD.ev hE rfl
     replace h140 := h140.mv hE rfl rfl
     replace h197 := h197.mv hE rfl rfl
     replace h190 := h190.mv hE rfl
     replace h193 := h193.mv hE rfl
     clear hE
     replace hS := hS.conv (t := 66) (y := .slice a194 (r187.2.done.set ((gi x_137 x_141).Oper).toNat false).length c195) kr (by rw [List.length_set])
     refine andH (Hold.of hS (bks := [8, 901]) kr hD) ?_
     intro hH
     have hx207 := hS.cell (id := 901) (t := 76) (cs := [I r187.2.o.States, I r187.2.o.Kinds, I r187.2.o.Init, Sl a188 r187.2.o.Rows c189, Sl a191 r187.2.l c192, Sl a194 r187.2.done c195, V (.map (some r4))]) kr
     replace hx207 := hx207.conv (vals' := [.int .i64 r187.2.o.States, .int .i64 r187.2.o.Kinds, .int .i64 r187.2.o.Init, .slice a188 r187.2.o.Rows.length c189, .slice a191 r187.2.l.length c192, .slice a194 (r187.2.done.set ((gi x_137 x_141).Oper).toNat false).length c195, .map (some r4)]) (by rw [List.length_set]; rfl)
     replace hS := hS.addbox (id := 901) (t := 76) (cs := [I r187.2.o.States, I r187.2.o.Kinds, I r187.2.o.Init, Sl a188 r187.2.o.Rows c189, Sl a191 r187.2.l c192, Sl a194 (r187.2.done.set ((gi x_137 x_141).Oper).toNat false) c195, V (.map (some r4))]) kr hx207
     clear hx207
     refine drawnDone kr ?_
     clear hD hH
     replace hS := hS.sl ⟨[(0, Pt 901 0), (1, I state), (5, I (IntKind.i64.wrap (n_136 + r187.1))), (26, Sl a138 x_137 c139), (27, I ((r132.length : Nat) : Int)), (28, I x_141)], [(901, (76, [I r187.2.o.States, I r187.2.o.Kinds, I r187.2.o.Init, Sl a188 r187.2.o.Rows c189, Sl a191 r187.2.l c192, Sl a194 (r187.2.done.set ((gi x_137 x_141).Oper).toNat false) c195, V (.map (some r4))]))]⟩
     refine region (eP T hS ⟨[(0, Pt 901 0), (1, I state), (5, I (IntKind.i64.wrap (n_136 + r187.1))), (26, Sl a138 x_137 c139), (27, I ((r132.length : Nat) : Int)), (28, I (IntKind.i64.wrap (x_141 + 1)))], [(901, (76, [I r187.2.o.States, I r187.2.o.Kinds, I r187.2.o.Init, Sl a188 r187.2.o.Rows c189, Sl a191 r187.2.l c192, Sl a194 (r187.2.done.set ((gi x_137 x_141).Oper).toNat false) c195, V (.map (some r4))]))]⟩ fun a hS => ?_)
     exact ⟨⟨IntKind.i64.wrap (n_136 + r187.1), x_137, IntKind.i64.wrap (x_141 + 1), r187.2.o.States, r187.2.o.Kinds, r187.2.o.Init, r187.2.o.Rows, r187.2.l, (r187.2.done.set ((gi x_137 x_141).Oper).toNat false), r187.2.failed⟩, ⟨ρ, _, a138, c139, a188, c189, a191, c192, a194, c195, hm.1, hS.sl _, hO, hP, h140, h190, h193, h206, h197⟩, hm.2⟩
    ·replace hm := hm.2 hb
     refine wexit (by rfl) ?_
     exact ⟨ρ, _, n_136, x_142, x_143, x_144, x_145, x_149, x_153, x_157, a146, c147, a150, c151, a154, c155, hm, hS.sl _, hO, hP, h148, h152, h156, h158⟩
  ·rintro a w213 ⟨ρ, χ212, n_109, x_110, x_111, x_112, x_113, x_117, x_121, x_125, a114, c115, a118, c119, a122, c123, hm, hS, hO, hP, h116, h120, h124, h126⟩
   unfold VC22_J2 at hm
   refine rP T hS ⟨[(4, I n_109)], [(901, (76, [I x_110, I x_111, I x_112, Sl a114 x_113 c115, Sl a118 x_117 c119, Sl a122 x_121 c123, V (.map (some r4))]))]⟩ fun a hS => ?_
   refine wret ?_
   exact finR T hS hO (fun c h => f0of_zero kr h) (fun c h => f0of_else (l := [(i1, 901), (m3, 2003), (m4, 2004)]) h) (f1of [(i1, 901), (m3, 2003), (m4, 2004)]) rfl (r := [.int .i64 n_109]) kr (fun χ' hM hC => ⟨(n_109, (⟨(⟨x_110, x_111, x_112, x_113⟩ : Api_Object), x_117, x_121, x_125⟩ : Search_seeker)), hm, a114, c115, a118, c119, a122, c123, rfl, h116.m0 hM, h120.m0 hM, (OS.out (f := (f1of [(i1, 901), (m3, 2003), (m4, 2004)])) h124 hM hC kr), ((hS.cell (id := 901) (t := 76) (cs := [I x_110, I x_111, I x_112, Sl a114 x_113 c115, Sl a118 x_117 c119, Sl a122 x_121 c123, V (.map (some r4))]) kr).out (f := (f1of [(i1, 901), (m3, 2003), (m4, 2004)])) hC kr kr (hP.at 0 rfl)), (h126.out (f := (f1of [(i1, 901), (m3, 2003), (m4, 2004)])) hM hC kr kr)⟩)
theorem C22 (N : Nat) (k18 : S18) (k22 : S22N N) (k32 : S32) (k34 : S34) (v : ∀ (state : Int) (cap1 : Search_seeker), preAl state cap1 → mAll state cap1 < N + 1 → VC22 N state cap1 (fun r => r = search_seeker_all state cap1)) : S22N (N + 1) := by
 intro w χ state cap1 a1 c1 a2 c2 a3 c3 m3 r4 m4  b1 i1 hp hms h1 h2 h3 h4 hc1 hA
 refine (W22 N k18 k22 k32 k34 w χ state cap1 a1 c1 a2 c2 a3 c3 m3 r4 m4  b1 i1 _ (v state cap1 hp hms) h1 h2 h3 h4 hc1 hA).mono ?_
 rintro _ _ _ _ ⟨r, rfl, h⟩
 exact h
/-- replevin/search.begin -/
theorem W20 (w0 : World) (χ0 : Nat → Nat) (o_ : Api_Object) (l_ : List Api_Oper) (a1 : Option Addr) (c1 : Nat) (a2 : Option Addr) (c2 : Nat) (col1 : Nat) (col2 : Nat) (col3 : Nat) (Q : Search_seeker → Prop) (hm : VC20 o_ l_ Q) (h1 : RS tApi_Row w0 χ0 a1 o_.Rows c1) (h2 : RS tApi_Oper w0 χ0 a2 l_ c2) :
  Ret Try.prog 20 #[.agg #[.int .i64 o_.States, .int .i64 o_.Kinds, .int .i64 o_.Init, .slice a1 o_.Rows.length c1], .slice a2 l_.length c2] xnone w0 χ0 (fun w χ' v => ∃ r, Q r ∧ ∃ (ra1 : Option Addr) (rc1 : Nat) (ra2 : Option Addr) (rc2 : Nat) (ra3 : Option Addr) (rc3 : Nat) (rr4 : Nat) (rb1 : Nat), v = .pointer (some ⟨rb1, 0, none⟩) ∧ RS tApi_Row w χ' ra1 r.o.Rows rc1 ∧ RS tApi_Oper w χ' ra2 r.l rc2 ∧ OS tBool 4 w χ' col1 ra3 r.done rc3 ∧ Cell w χ' rb1 col3 76 [.int .i64 r.o.States, .int .i64 r.o.Kinds, .int .i64 r.o.Init, .slice ra1 r.o.Rows.length rc1, .slice ra2 r.l.length rc2, .slice ra3 r.done.length rc3, .map (some rr4)] ∧ OMS kvSearch_spot tI false w χ' col2 rr4 r.failed) := by
 unfold VC20 at hm
 replace hm := hm (h1.sm kr)
 replace hm := hm (h2.sm kr)
 refine enter Try.func20 rfl (vals := [.agg #[.int .i64 o_.States, .int .i64 o_.Kinds, .int .i64 o_.Init, .slice a1 o_.Rows.length c1], .slice a2 l_.length c2]) kr ?_
 intro ρ a hS hO hM
 replace h1 := h1.m0 hM
 replace h2 := h2.m0 hM
 clear hM
 refine rM T hS ⟨[(1, Sl a2 l_ c2), (2, Pt 3 0)], [(3, (24, [I o_.States, I o_.Kinds, I o_.Init, Sl a1 o_.Rows c1]))]⟩ fun ρ a w147 χ148 hS hE hr => ?_
 replace hO := hO.mv hE rfl rfl
 replace h1 := h1.mv hE rfl
 replace h2 := h2.mv hE rfl
 clear hE hr
 refine drawnSX [3] mixed hS ?_
 intro w101 χ102 hS hE hD hH
 replace hO := hO.mv hE rfl rfl
 replace h1 := h1.mv hE rfl
 replace h2 := h2.mv hE rfl
 clear hE
 refine tk T [0, 1, 2, 3] [3] hS hH #[true, true, true, true, false, false, false, false, false] 5 ⟨[(5, V (.agg #[.int .i64 o_.States, .int .i64 o_.Kinds, .int .i64 o_.Init, .slice a1 o_.Rows.length c1])), (6, Sl a2 l_ c2), (8, I ((l_.length : Nat) : Int))], [(3, (24, [I o_.States, I o_.Kinds, I o_.Init, Sl a1 o_.Rows c1]))]⟩ fun a hS => ?_
 obtain ⟨hgq4, hm⟩ := hm
 refine drcut (fun a w => ∃ (χ : Nat → Nat) (a122 : Option Addr) (c123 : Nat) (r124 : Nat), St Try.f20.ntmps ⟨[(11, V (.agg #[.int .i64 o_.States, .int .i64 o_.Kinds, .int .i64 o_.Init, .slice a1 o_.Rows.length c1, .slice a2 l_.length c2, .slice a122 (List.replicate ((l_.length : Nat) : Int).toNat (false : Bool)).length c123, .map (some r124)]))], [(3, (24, [I o_.States, I o_.Kinds, I o_.Init, Sl a1 o_.Rows c1]))]⟩ ρ a w χ ∧ Old w0 χ0 w χ ∧ M0 w101 χ102 w χ ∧ Hold w101 χ102 (filt [3] ⟨[(1, Sl a2 l_ c2), (2, Pt 3 0)], [(3, (24, [I o_.States, I o_.Kinds, I o_.Init, Sl a1 o_.Rows c1]))]⟩) ρ w ∧ RS tApi_Row w χ a1 o_.Rows c1 ∧ RS tApi_Oper w χ a2 l_ c2 ∧ OS tBool 4 w χ 1010 a122 (List.replicate ((l_.length : Nat) : Int).toNat (false : Bool)) c123 ∧ OMS kvSearch_spot tI false w χ 1011 r124 ([] : List (Search_spot × Int))) #[true, true, true, true, true, true, true, false, false] 2 ?_ (fun H => ?_)
 ·rintro a w143 ⟨χ142, a122, c123, r124, hS, hO, hD, hH, h119, h120, h121, h125⟩
  clear hgq4
  replace hS := hS.sl ⟨[(11, V (.agg #[.int .i64 o_.States, .int .i64 o_.Kinds, .int .i64 o_.Init, .slice a1 o_.Rows.length c1, .slice a2 l_.length c2, .slice a122 (List.replicate ((l_.length : Nat) : Int).toNat (false : Bool)).length c123, .map (some r124)]))], [(3, (24, [I o_.States, I o_.Kinds, I o_.Init, Sl a1 o_.Rows c1]))]⟩
  refine only 7 kr (by rfl) (boxB1 (cs := #[.int .i64 o_.States, .int .i64 o_.Kinds, .int .i64 o_.Init, .slice a1 o_.Rows.length c1, .slice a2 l_.length c2, .slice a122 (List.replicate ((l_.length : Nat) : Int).toNat (false : Bool)).length c123, .map (some r124)]) hS kr kr kr kr (sy' := ⟨[(12, Pt 13 0), (11, V (.agg #[.int .i64 o_.States, .int .i64 o_.Kinds, .int .i64 o_.Init, .slice a1 o_.Rows.length c1, .slice a2 l_.length c2, .slice a122 (List.replicate ((l_.length : Nat) : Int).toNat (false : Bool)).length c123, .map (some r124)]))], [(13, (76, [I o_.States, I o_.Kinds, I o_.Init, Sl a1 o_.Rows c1, Sl a2 l_ c2, Sl a122 (List.replicate ((l_.length : Nat) : Int).toNat (false : Bool)) c123, V (.map (some r124))])), (3, (24, [I o_.States, I o_.Kinds, I o_.Init, Sl a1 o_.Rows c1]))]⟩) kr ?_)
  intro ρ a w144 χ145 hS hE hr146
  replace hO := hO.mv hE rfl rfl
  replace hD := hD.ev hE rfl
  replace h119 := h119.mv hE rfl
  replace h120 := h120.mv hE rfl
  replace h121 := h121.mv hE rfl rfl
  replace h125 := h125.mv hE rfl rfl
  clear hE
  replace hS := hS.sl ⟨[(11, V (.agg #[.int .i64 o_.States, .int .i64 o_.Kinds, .int .i64 o_.Init, .slice a1 o_.Rows.length c1, .slice a2 l_.length c2, .slice a122 (List.replicate ((l_.length : Nat) : Int).toNat (false : Bool)).length c123, .map (some r124)])), (12, Pt 13 0)], [(3, (24, [I o_.States, I o_.Kinds, I o_.Init, Sl a1 o_.Rows c1])), (13, (76, [I o_.States, I o_.Kinds, I o_.Init, Sl a1 o_.Rows c1, Sl a2 l_ c2, Sl a122 (List.replicate ((l_.length : Nat) : Int).toNat (false : Bool)) c123, V (.map (some r124))]))]⟩
  refine andH ((Hold.of hS (bks := [3]) kr hD).rho hr146 kr) ?_
  intro hH
  refine takeZ T hr146 kr [8] [3] [4] hS kr kr kr hH (listed' := #[true, true, true, true, true, true, true, true, true]) (fuel := 0) (sy' := ⟨[(4, Pt 13 0)], [(3, (24, [I o_.States, I o_.Kinds, I o_.Init, Sl a1 o_.Rows c1])), (13, (76, [I o_.States, I o_.Kinds, I o_.Init, Sl a1 o_.Rows c1, Sl a2 l_ c2, Sl a122 (List.replicate ((l_.length : Nat) : Int).toNat (false : Bool)) c123, V (.map (some r124))]))]⟩) kr (by rfl) ?_
  intro a hS
  refine drawnDone kr ?_
  clear hD hH
  replace hS := hS.sl ⟨[(4, Pt 13 0)], [(13, (76, [I o_.States, I o_.Kinds, I o_.Init, Sl a1 o_.Rows c1, Sl a2 l_ c2, Sl a122 (List.replicate ((l_.length : Nat) : Int).toNat (false : Bool)) c123, V (.map (some r124))]))]⟩
  refine wret ?_
  exact fin T hS hO (fun c => (bif Nat.beq c 13 then col3 else (bif Nat.beq c 1011 then col2 else (bif Nat.beq c 1010 then col1 else c)))) rfl (r := [.pointer (some ⟨ρ 13, 0, none⟩)]) kr (fun χ' hM hC => ⟨(⟨o_, l_, List.replicate ((l_.length : Nat) : Int).toNat (false : Bool), ([] : List (Search_spot × Int))⟩ : Search_seeker), hm, a1, c1, a2, c2, a122, c123, r124, (ρ 13), rfl, h119.m0 hM, h120.m0 hM, (OS.out (f := (fun c => (bif Nat.beq c 13 then col3 else (bif Nat.beq c 1011 then col2 else (bif Nat.beq c 1010 then col1 else c))))) h121 hM hC kr), ((hS.cell (id := 13) (t := 76) (cs := [I o_.States, I o_.Kinds, I o_.Init, Sl a1 o_.Rows c1, Sl a2 l_ c2, Sl a122 (List.replicate ((l_.length : Nat) : Int).toNat (false : Bool)) c123, V (.map (some r124))]) kr).out (f := (fun c => (bif Nat.beq c 13 then col3 else (bif Nat.beq c 1011 then col2 else (bif Nat.beq c 1010 then col1 else c))))) hC kr kr rfl), (h125.out (f := (fun c => (bif Nat.beq c 13 then col3 else (bif Nat.beq c 1011 then col2 else (bif Nat.beq c 1010 then col1 else c))))) hM hC kr kr)⟩)
 ·clear hm
  refine anyOf (is := [4, 5]) kr (by decide) ?_
  intro i hi
  rcases mem2 hi with rfl | rfl
  ·have hq := hgq4
   refine oneOp (by rfl) (make (E := 4) (kl := .i64) (kc := .i64) (col := 1010) (T := tBool) T false hS kr kr kr kr kr kr hq.1 hq.2.1 (by have := hq.2.2; have e_ : ((tBool.bytes : Nat) : Int) = 1 := rfl; rw [e_]; omega) (by have := hq.2.2; omega) (fun _ _ => rfl) ?_)
   intro b126 a w127 χ128 hE h129 hN hS
   clear hq hN
   replace hO := hO.mv hE rfl rfl
   replace hD := hD.ev hE rfl
   replace h1 := h1.mv hE rfl
   replace h2 := h2.mv hE rfl
   clear hE
   replace hS := hS.conv (t := 9) (y := .slice (some ⟨b126, 0, none⟩) (List.replicate ((l_.length : Nat) : Int).toNat (false : Bool)).length ((l_.length : Nat) : Int).toNat) kr (by rw [List.length_replicate])
   refine andH (Hold.of hS (bks := [3]) kr hD) ?_
   intro hH
   refine only 5 kr (by rfl) (mkmapS kvSearch_spot tI false 1011 hS kr kr ?_)
   intro r130 a w131 χ132 hE h133 hS
   replace hO := hO.mv hE rfl rfl
   replace hD := hD.ev hE rfl
   replace h1 := h1.mv hE rfl
   replace h2 := h2.mv hE rfl
   replace h129 := h129.mv hE rfl rfl
   clear hE
   refine andH (Hold.of hS (bks := [3]) kr hD) ?_
   intro hH
   refine tk T [6] [3] hS hH #[true, true, true, true, true, true, true, false, false] 2 ⟨[(11, V (.agg #[.int .i64 o_.States, .int .i64 o_.Kinds, .int .i64 o_.Init, .slice a1 o_.Rows.length c1, .slice a2 l_.length c2, .slice (some ⟨b126, 0, none⟩) (List.replicate ((l_.length : Nat) : Int).toNat (false : Bool)).length ((l_.length : Nat) : Int).toNat, .map (some r130)]))], [(3, (24, [I o_.States, I o_.Kinds, I o_.Init, Sl a1 o_.Rows c1]))]⟩ fun a hS => ?_
   exact H _ _ ⟨_, (some ⟨b126, 0, none⟩), ((l_.length : Nat) : Int).toNat, r130, hS.sl _, hO, hD, hH, h1, h2, h129, h133⟩
  ·refine oneOp (by rfl) (mkmapS kvSearch_spot tI false 1011 hS kr kr ?_)
   intro r134 a w135 χ136 hE h137 hS
   replace hO := hO.mv hE rfl rfl
   replace hD := hD.ev hE rfl
   replace h1 := h1.mv hE rfl
   replace h2 := h2.mv hE rfl
   clear hE
   refine andH (Hold.of hS (bks := [3]) kr hD) ?_
   intro hH
   have hq := hgq4
   refine only 4 kr (by rfl) (make (E := 4) (kl := .i64) (kc := .i64) (col := 1010) (T := tBool) T false hS kr kr kr kr kr kr hq.1 hq.2.1 (by have := hq.2.2; have e_ : ((tBool.bytes : Nat) : Int) = 1 := rfl; rw [e_]; omega) (by have := hq.2.2; omega) (fun _ _ => rfl) ?_)
   intro b138 a w139 χ140 hE h141 hN hS
   clear hq hN
   replace hO := hO.mv hE rfl rfl
   replace hD := hD.ev hE rfl
   replace h1 := h1.mv hE rfl
   replace h2 := h2.mv hE rfl
   replace h137 := h137.mv hE rfl rfl
   clear hE
   replace hS := hS.conv (t := 9) (y := .slice (some ⟨b138, 0, none⟩) (List.replicate ((l_.length : Nat) : Int).toNat (false : Bool)).length ((l_.length : Nat) : Int).toNat) kr (by rw [List.length_replicate])
   refine andH (Hold.of hS (bks := [3]) kr hD) ?_
   intro hH
   refine tk T [6] [3] hS hH #[true, true, true, true, true, true, true, false, false] 2 ⟨[(11, V (.agg #[.int .i64 o_.States, .int .i64 o_.Kinds, .int .i64 o_.Init, .slice a1 o_.Rows.length c1, .slice a2 l_.length c2, .slice (some ⟨b138, 0, none⟩) (List.replicate ((l_.length : Nat) : Int).toNat (false : Bool)).length ((l_.length : Nat) : Int).toNat, .map (some r134)]))], [(3, (24, [I o_.States, I o_.Kinds, I o_.Init, Sl a1 o_.Rows c1]))]⟩ fun a hS => ?_
   exact H _ _ ⟨_, (some ⟨b138, 0, none⟩), ((l_.length : Nat) : Int).toNat, r134, hS.sl _, hO, hD, hH, h1, h2, h141, h137⟩
theorem C20 (v : ∀ (o_ : Api_Object) (l_ : List Api_Oper), preBg o_ l_ → VC20 o_ l_ (fun r => r = search_begin o_ l_)) : S20 := by
 intro w χ o_ l_ a1 c1 a2 c2 col1 col2 col3  hp h1 h2
 refine (W20 w χ o_ l_ a1 c1 a2 c2 col1 col2 col3  _ (v o_ l_ hp) h1 h2).mono ?_
 rintro _ _ _ _ ⟨r, rfl, h⟩
 exact h
/-- replevin/search.Search -/
theorem W8 (k15 : S15) (k19 : S19) (k20 : S20) (k21 : S21) (w0 : World) (χ0 : Nat → Nat) (o_ : Api_Object) (l_ : List Api_Oper) (a1 : Option Addr) (c1 : Nat) (a2 : Option Addr) (c2 : Nat) (Q : (List Api_Pick) × Int → Prop) (hm : VC8 o_ l_ Q) (h1 : RS tApi_Row w0 χ0 a1 o_.Rows c1) (h2 : RS tApi_Oper w0 χ0 a2 l_ c2) :
  Ret Try.prog 8 #[.agg #[.int .i64 o_.States, .int .i64 o_.Kinds, .int .i64 o_.Init, .slice a1 o_.Rows.length c1], .slice a2 l_.length c2] xnone w0 χ0 (fun w χ' v => ∃ r, Q r ∧ ∃ (ra1 : Option Addr) (rc1 : Nat), v = .tuple #[.slice ra1 r.1.length rc1, .int .i64 r.2] ∧ RS tApi_Pick w χ' ra1 r.1 rc1) := by
 unfold VC8 at hm
 replace hm := hm (h1.sm kr)
 replace hm := hm (h2.sm kr)
 refine enter Try.func8 rfl (vals := [.agg #[.int .i64 o_.States, .int .i64 o_.Kinds, .int .i64 o_.Init, .slice a1 o_.Rows.length c1], .slice a2 l_.length c2]) kr ?_
 intro ρ a hS hO hM
 replace h1 := h1.m0 hM
 replace h2 := h2.m0 hM
 clear hM
 refine rM T hS ⟨[(1, Sl a2 l_ c2), (2, Pt 3 0)], [(3, (24, [I o_.States, I o_.Kinds, I o_.Init, Sl a1 o_.Rows c1]))]⟩ fun ρ a w151 χ152 hS hE hr => ?_
 replace hO := hO.mv hE rfl rfl
 replace h1 := h1.mv hE rfl
 replace h2 := h2.mv hE rfl
 clear hE hr
 refine wseq ?_
 refine regO ?_
 refine oP T hS 2 ⟨[(1, Sl a2 l_ c2), (2, Pt 3 0), (9, V (.agg #[.int .i64 o_.States, .int .i64 o_.Kinds, .int .i64 o_.Init, .slice a1 o_.Rows.length c1])), (10, Sl a2 l_ c2)], [(3, (24, [I o_.States, I o_.Kinds, I o_.Init, Sl a1 o_.Rows c1]))]⟩ fun a hS => ?_
 obtain ⟨hq, hm⟩ := hm
 refine op1 (call hS kr kr hb19 kr (fun _ _ => rfl) (k19 _ _ o_ l_ 20 a1 c1 a2 c2 hq h1 h2) ?_)
 intro v101 a w102 χ103 hE hp hS
 clear hq
 replace hO := hO.mv hE rfl rfl
 replace h1 := h1.mv hE rfl
 replace h2 := h2.mv hE rfl
 clear hE
 obtain ⟨r104, hr⟩ : ∃ r, search_check o_ l_ 20 = r := ⟨_, rfl⟩
 replace hm := hm r104 hr
 rw [hr] at hp
 clear hr
 subst hp
 refine eP T hS ⟨[(1, Sl a2 l_ c2), (2, Pt 3 0), (6, I r104)], [(3, (24, [I o_.States, I o_.Kinds, I o_.Init, Sl a1 o_.Rows c1]))]⟩ fun a hS => ?_
 refine rP T hS ⟨[(1, Sl a2 l_ c2), (2, Pt 3 0), (6, I r104), (13, B (r104 != 0))], [(3, (24, [I o_.States, I o_.Kinds, I o_.Init, Sl a1 o_.Rows c1]))]⟩ fun a hS => ?_
 refine wcond hS (b := (r104 != 0)) kr (fun hb => ?_) (fun hb => ?_)
 ·replace hm := hm.1 hb
  refine rP T hS ⟨[(4, V (.slice none 0 0)), (5, I r104)], []⟩ fun a hS => ?_
  refine wret ?_
  exact fin T hS hO (fun c => c) rfl (r := [.slice none 0 0, .int .i64 r104]) kr (fun χ' hM hC => ⟨([], r104), hm, none, 0, rfl, RS.empty _ _ _⟩)
 ·replace hm := hm.2 hb
  refine wskip ?_
  refine drawnSX [3] mixed hS ?_
  intro w105 χ106 hS hE hD hH
  replace hO := hO.mv hE rfl rfl
  replace h1 := h1.mv hE rfl
  replace h2 := h2.mv hE rfl
  clear hE
  refine tk T [0, 1, 3, 4] [3] hS hH #[true, true, false, true, true, false, false, false, false, false, false] 7 ⟨[(1, Sl a2 l_ c2), (2, Pt 3 0), (16, V (.agg #[.int .i64 o_.States, .int .i64 o_.Kinds, .int .i64 o_.Init, .slice a1 o_.Rows.length c1])), (17, Sl a2 l_ c2), (20, I o_.Init)], [(3, (24, [I o_.States, I o_.Kinds, I o_.Init, Sl a1 o_.Rows c1]))]⟩ fun a hS => ?_
  obtain ⟨hq, hm⟩ := hm
  refine only 2 kr (by rfl) (call hS kr kr hb20 kr (fun _ _ => rfl) (k20 _ _ o_ l_ a1 c1 a2 c2 4119 2121 702 hq h1 h2) ?_)
  intro v107 a w108 χ109 hE hp hS
  clear hq
  replace hO := hO.mv hE rfl rfl
  replace hD := hD.ev hE rfl
  replace h1 := h1.mv hE rfl
  replace h2 := h2.mv hE rfl
  clear hE
  obtain ⟨a111, c112, a114, c115, a117, c118, r121, b122, hp, h113, h116, h119, hc123, h120⟩ := hp
  obtain ⟨r110, hr⟩ : ∃ r, search_begin o_ l_ = r := ⟨_, rfl⟩
  replace hm := hm r110 hr
  rw [hr] at h113 h116 h119 hc123 h120
  clear hr
  subst hp
  replace hm := hm (h113.sm kr)
  replace hm := hm (h116.sm kr)
  replace hm := hm (h119.sm kr)
  replace hS := hS.newbox (id := 702) (t := 76) (cs := [I r110.o.States, I r110.o.Kinds, I r110.o.Init, Sl a111 r110.o.Rows c112, Sl a114 r110.l c115, Sl a117 r110.done c118, V (.map (some r121))]) kr kr hc123 rfl
  replace hS := hS.convS (t := 18) (x := V (.pointer (some ⟨b122, 0, none⟩))) (y := Pt 702 0) kr rfl
  have hr124 : ∀ id, id ≠ 702 → (upd ρ 702 b122) id = ρ id := fun id h => upd_ne _ h
  generalize (upd ρ 702 b122) = ρ at hS hr124
  clear hc123
  replace hS := hS.sl ⟨[(1, Sl a2 l_ c2), (2, Pt 3 0), (16, V (.agg #[.int .i64 o_.States, .int .i64 o_.Kinds, .int .i64 o_.Init, .slice a1 o_.Rows.length c1])), (17, Sl a2 l_ c2), (20, I o_.Init), (18, Pt 702 0)], [(3, (24, [I o_.States, I o_.Kinds, I o_.Init, Sl a1 o_.Rows c1])), (702, (76, [I r110.o.States, I r110.o.Kinds, I r110.o.Init, Sl a111 r110.o.Rows c112, Sl a114 r110.l c115, Sl a117 r110.done c118, V (.map (some r121))]))]⟩
  refine andH ((Hold.of hS (bks := [3]) kr hD).rho hr124 kr) ?_
  intro hH
  obtain ⟨hq, hm⟩ := hm
  refine only 5 kr (by rfl) (callR hS kr kr hb21 kr (k21 _ _ o_.Init [] r110 none 0 a111 c112 a114 c115 a117 c118 4119 r121 2121 (ρ 702) 702 hq (RS.empty _ _ _) h113 h116 h119 h120 (hS.cell (id := 702) (t := 76) (cs := [I r110.o.States, I r110.o.Kinds, I r110.o.Init, Sl a111 r110.o.Rows c112, Sl a114 r110.l c115, Sl a117 r110.done c118, V (.map (some r121))]) kr) ⟨by decide, by decide⟩) ?_)
  intro v125 a w126 χ127 hE hp hS
  clear hq
  clear h120
  clear h119
  replace hO := hO.mv hE rfl rfl
  replace hD := hD.ev hE rfl
  replace h1 := h1.mv hE rfl
  replace h2 := h2.mv hE rfl
  replace h113 := h113.mv hE rfl
  replace h116 := h116.mv hE rfl
  clear hE
  obtain ⟨a129, c130, a132, c133, a135, c136, a138, c139, hp, h131, h134, h137, h140, hc142, h141⟩ := hp
  obtain ⟨r128, hr⟩ : ∃ r, search_seeker_first o_.Init [] r110 = r := ⟨_, rfl⟩
  replace hm := hm r128 hr
  rw [hr] at hp h131 h134 h137 h140 hc142 h141
  clear hr
  subst hp
  replace hm := hm (h131.sm kr)
  replace hm := hm (h134.sm kr)
  replace hm := hm (h137.sm kr)
  replace hm := hm (h140.sm kr)
  replace hS := hS.addbox (id := 702) (t := 76) (cs := [I r128.2.2.o.States, I r128.2.2.o.Kinds, I r128.2.2.o.Init, Sl a132 r128.2.2.o.Rows c133, Sl a135 r128.2.2.l c136, Sl a138 r128.2.2.done c139, V (.map (some r121))]) kr hc142
  clear hc142
  replace hS := hS.sl ⟨[(1, Sl a2 l_ c2), (2, Pt 3 0), (16, V (.agg #[.int .i64 o_.States, .int .i64 o_.Kinds, .int .i64 o_.Init, .slice a1 o_.Rows.length c1])), (17, Sl a2 l_ c2), (20, I o_.Init), (18, Pt 702 0), (21, V (.tuple #[.slice a129 r128.1.length c130, .bool r128.2.1]))], [(3, (24, [I o_.States, I o_.Kinds, I o_.Init, Sl a1 o_.Rows c1])), (702, (76, [I r128.2.2.o.States, I r128.2.2.o.Kinds, I r128.2.2.o.Init, Sl a132 r128.2.2.o.Rows c133, Sl a135 r128.2.2.l c136, Sl a138 r128.2.2.done c139, V (.map (some r121))]))]⟩
  refine andH ((Hold.of hS (bks := [3]) kr hD).rho hr124 kr) ?_
  intro hH
  refine takeZ T hr124 kr [6, 7, 8, 9, 10] [3] [1, 2, 7, 8] hS kr kr kr hH (listed' := #[true, true, true, true, true, true, true, true, true, true, true]) (fuel := 0) (sy' := ⟨[(1, Sl a2 l_ c2), (2, Pt 3 0), (7, Sl a129 r128.1 c130), (8, B r128.2.1)], [(3, (24, [I o_.States, I o_.Kinds, I o_.Init, Sl a1 o_.Rows c1])), (702, (76, [I r128.2.2.o.States, I r128.2.2.o.Kinds, I r128.2.2.o.Init, Sl a132 r128.2.2.o.Rows c133, Sl a135 r128.2.2.l c136, Sl a138 r128.2.2.done c139, V (.map (some r121))]))]⟩) kr (by rfl) ?_
  intro a hS
  refine drawnDone kr ?_
  clear hD hH
  replace hS := hS.sl ⟨[(1, Sl a2 l_ c2), (2, Pt 3 0), (7, Sl a129 r128.1 c130), (8, B r128.2.1)], [(3, (24, [I o_.States, I o_.Kinds, I o_.Init, Sl a1 o_.Rows c1]))]⟩
  refine wseq ?_
  refine wcut (fun a w => ∃ (ρ : Nat → Nat) (χ : Nat → Nat) (x_144 : Bool), VC8_J1 Q r128 x_144 ∧ St Try.f8.ntmps ⟨[(7, Sl a129 r128.1 c130), (32, B x_144)], []⟩ ρ a w χ ∧ Old w0 χ0 w χ ∧ RS tApi_Pick w χ a129 r128.1 c130) ?_ ?_
  ·refine region ?_
   refine oP T hS 3 ⟨[(1, Sl a2 l_ c2), (2, Pt 3 0), (7, Sl a129 r128.1 c130), (26, B (!r128.2.1))], [(3, (24, [I o_.States, I o_.Kinds, I o_.Init, Sl a1 o_.Rows c1]))]⟩ fun a hS => ?_
   rcases Bool.eq_false_or_eq_true (!r128.2.1) with hb | hb
   ·replace hS := hS.lit (t := 26) kr hb
    replace hm := hm.1 hb
    refine eP T hS ⟨[(7, Sl a129 r128.1 c130), (32, B true)], []⟩ fun a hS => ?_
    exact ⟨ρ, _, true, hm, hS.sl _, hO, h131⟩
   ·replace hS := hS.lit (t := 26) kr hb
    replace hm := hm.2 hb
    refine oP T hS 3 ⟨[(7, Sl a129 r128.1 c130), (26, B false), (27, V (.agg #[.int .i64 o_.States, .int .i64 o_.Kinds, .int .i64 o_.Init, .slice a1 o_.Rows.length c1])), (28, Sl a2 l_ c2), (29, Sl a129 r128.1 c130)], []⟩ fun a hS => ?_
    obtain ⟨hq, hm⟩ := hm
    refine op1 (call hS kr kr hb15 kr (fun _ _ => rfl) (k15 _ _ o_ l_ r128.1 a1 c1 a2 c2 a129 c130 hq h1 h2 h131) ?_)
    intro v145 a w146 χ147 hE hp hS
    clear hq
    replace hO := hO.mv hE rfl rfl
    replace h1 := h1.mv hE rfl
    replace h2 := h2.mv hE rfl
    replace h131 := h131.mv hE rfl
    clear hE
    obtain ⟨r148, hr⟩ : ∃ r, witness_Is o_ l_ r128.1 = r := ⟨_, rfl⟩
    replace hm := hm r148 hr
    rw [hr] at hp
    clear hr
    subst hp
    refine eP T hS ⟨[(7, Sl a129 r128.1 c130), (32, B (!r148))], []⟩ fun a hS => ?_
    exact ⟨ρ, _, (!r148), hm, hS.sl _, hO, h131⟩
  ·rintro a w150 ⟨ρ, χ149, x_144, hm, hS, hO, h143⟩
   unfold VC8_J1 at hm
   refine wcond hS (b := x_144) kr (fun hb => ?_) (fun hb => ?_)
   ·replace hm := hm.1 hb
    refine rP T hS ⟨[(4, V (.slice none 0 0)), (5, I 41)], []⟩ fun a hS => ?_
    refine wret ?_
    exact fin T hS hO (fun c => c) rfl (r := [.slice none 0 0, .int .i64 41]) kr (fun χ' hM hC => ⟨([], 41), hm, none, 0, rfl, RS.empty _ _ _⟩)
   ·replace hm := hm.2 hb
    refine wskip ?_
    refine rP T hS ⟨[(4, Sl a129 r128.1 c130), (5, I 0)], []⟩ fun a hS => ?_
    refine wret ?_
    exact fin T hS hO (fun c => c) rfl (r := [.slice a129 r128.1.length c130, .int .i64 0]) kr (fun χ' hM hC => ⟨(r128.1, 0), hm, a129, c130, rfl, h143.m0 hM⟩)
theorem C8 (k15 : S15) (k19 : S19) (k20 : S20) (k21 : S21) (v : ∀ (o_ : Api_Object) (l_ : List Api_Oper), preSe o_ l_ → VC8 o_ l_ (fun r => r = search_Search o_ l_)) : S8 := by
 intro w χ o_ l_ a1 c1 a2 c2   hp h1 h2
 refine (W8 k15 k19 k20 k21 w χ o_ l_ a1 c1 a2 c2   _ (v o_ l_ hp) h1 h2).mono ?_
 rintro _ _ _ _ ⟨r, rfl, h⟩
 exact h
/-- replevin/search.Lin -/
theorem W9 (k8 : S8) (w0 : World) (χ0 : Nat → Nat) (o_ : Api_Object) (l_ : List Api_Oper) (a1 : Option Addr) (c1 : Nat) (a2 : Option Addr) (c2 : Nat) (Q : Bool × Int → Prop) (hm : VC9 o_ l_ Q) (h1 : RS tApi_Row w0 χ0 a1 o_.Rows c1) (h2 : RS tApi_Oper w0 χ0 a2 l_ c2) :
  Ret Try.prog 9 #[.agg #[.int .i64 o_.States, .int .i64 o_.Kinds, .int .i64 o_.Init, .slice a1 o_.Rows.length c1], .slice a2 l_.length c2] xnone w0 χ0 (fun w χ' v => ∃ r, Q r ∧ v = .tuple #[.bool r.1, .int .i64 r.2]) := by
 unfold VC9 at hm
 replace hm := hm (h1.sm kr)
 replace hm := hm (h2.sm kr)
 refine enter Try.func9 rfl (vals := [.agg #[.int .i64 o_.States, .int .i64 o_.Kinds, .int .i64 o_.Init, .slice a1 o_.Rows.length c1], .slice a2 l_.length c2]) kr ?_
 intro ρ a hS hO hM
 replace h1 := h1.m0 hM
 replace h2 := h2.m0 hM
 clear hM
 refine rM T hS ⟨[(1, Sl a2 l_ c2), (2, Pt 3 0)], [(3, (24, [I o_.States, I o_.Kinds, I o_.Init, Sl a1 o_.Rows c1]))]⟩ fun ρ a w108 χ109 hS hE hr => ?_
 replace hO := hO.mv hE rfl rfl
 replace h1 := h1.mv hE rfl
 replace h2 := h2.mv hE rfl
 clear hE hr
 refine regO ?_
 refine oP T hS 2 ⟨[(9, V (.agg #[.int .i64 o_.States, .int .i64 o_.Kinds, .int .i64 o_.Init, .slice a1 o_.Rows.length c1])), (10, Sl a2 l_ c2)], []⟩ fun a hS => ?_
 obtain ⟨hq, hm⟩ := hm
 refine op1 (call hS kr kr hb8 kr (fun _ _ => rfl) (k8 _ _ o_ l_ a1 c1 a2 c2 hq h1 h2) ?_)
 intro v101 a w102 χ103 hE hp hS
 clear hq
 replace hO := hO.mv hE rfl rfl
 replace h1 := h1.mv hE rfl
 replace h2 := h2.mv hE rfl
 clear hE
 obtain ⟨a105, c106, hp, h107⟩ := hp
 obtain ⟨r104, hr⟩ : ∃ r, search_Search o_ l_ = r := ⟨_, rfl⟩
 replace hm := hm r104 hr
 rw [hr] at hp h107
 clear hr
 subst hp
 replace hm := hm (h107.sm kr)
 refine eP T hS ⟨[(7, I r104.2)], []⟩ fun a hS => ?_
 refine wseq ?_
 refine rP T hS ⟨[(7, I r104.2), (15, B (r104.2 == 41))], []⟩ fun a hS => ?_
 refine wcond hS (b := (r104.2 == 41)) kr (fun hb => ?_) (fun hb => ?_)
 ·replace hm := hm.1 hb
  refine rP T hS ⟨[(4, B false), (5, I 0)], []⟩ fun a hS => ?_
  refine wret ?_
  exact fin T hS hO (fun c => c) rfl (r := [.bool false, .int .i64 0]) kr (fun χ' hM hC => ⟨(false, 0), hm, rfl⟩)
 ·replace hm := hm.2 hb
  refine wskip ?_
  refine rP T hS ⟨[(4, B (r104.2 == 0)), (5, I r104.2)], []⟩ fun a hS => ?_
  refine wret ?_
  exact fin T hS hO (fun c => c) rfl (r := [.bool (r104.2 == 0), .int .i64 r104.2]) kr (fun χ' hM hC => ⟨((r104.2 == 0), r104.2), hm, rfl⟩)
theorem C9 (k8 : S8) (v : ∀ (o_ : Api_Object) (l_ : List Api_Oper), preSe o_ l_ → VC9 o_ l_ (fun r => r = search_Lin o_ l_)) : S9 := by
 intro w χ o_ l_ a1 c1 a2 c2   hp h1 h2
 refine (W9 k8 w χ o_ l_ a1 c1 a2 c2   _ (v o_ l_ hp) h1 h2).mono ?_
 rintro _ _ _ _ ⟨r, rfl, h⟩
 exact h
/-- replevin/search.Count -/
theorem W10 (k19 : S19) (k20 : S20) (k22 : S22) (w0 : World) (χ0 : Nat → Nat) (o_ : Api_Object) (l_ : List Api_Oper) (a1 : Option Addr) (c1 : Nat) (a2 : Option Addr) (c2 : Nat) (Q : Int × Int → Prop) (hm : VC10 o_ l_ Q) (h1 : RS tApi_Row w0 χ0 a1 o_.Rows c1) (h2 : RS tApi_Oper w0 χ0 a2 l_ c2) :
  Ret Try.prog 10 #[.agg #[.int .i64 o_.States, .int .i64 o_.Kinds, .int .i64 o_.Init, .slice a1 o_.Rows.length c1], .slice a2 l_.length c2] xnone w0 χ0 (fun w χ' v => ∃ r, Q r ∧ v = .tuple #[.int .i64 r.1, .int .i64 r.2]) := by
 unfold VC10 at hm
 replace hm := hm (h1.sm kr)
 replace hm := hm (h2.sm kr)
 refine enter Try.func10 rfl (vals := [.agg #[.int .i64 o_.States, .int .i64 o_.Kinds, .int .i64 o_.Init, .slice a1 o_.Rows.length c1], .slice a2 l_.length c2]) kr ?_
 intro ρ a hS hO hM
 replace h1 := h1.m0 hM
 replace h2 := h2.m0 hM
 clear hM
 refine rM T hS ⟨[(1, Sl a2 l_ c2), (2, Pt 3 0)], [(3, (24, [I o_.States, I o_.Kinds, I o_.Init, Sl a1 o_.Rows c1]))]⟩ fun ρ a w140 χ141 hS hE hr => ?_
 replace hO := hO.mv hE rfl rfl
 replace h1 := h1.mv hE rfl
 replace h2 := h2.mv hE rfl
 clear hE hr
 refine wseq ?_
 refine regO ?_
 refine oP T hS 2 ⟨[(1, Sl a2 l_ c2), (2, Pt 3 0), (7, V (.agg #[.int .i64 o_.States, .int .i64 o_.Kinds, .int .i64 o_.Init, .slice a1 o_.Rows.length c1])), (8, Sl a2 l_ c2)], [(3, (24, [I o_.States, I o_.Kinds, I o_.Init, Sl a1 o_.Rows c1]))]⟩ fun a hS => ?_
 obtain ⟨hq, hm⟩ := hm
 refine op1 (call hS kr kr hb19 kr (fun _ _ => rfl) (k19 _ _ o_ l_ 6 a1 c1 a2 c2 hq h1 h2) ?_)
 intro v101 a w102 χ103 hE hp hS
 clear hq
 replace hO := hO.mv hE rfl rfl
 replace h1 := h1.mv hE rfl
 replace h2 := h2.mv hE rfl
 clear hE
 obtain ⟨r104, hr⟩ : ∃ r, search_check o_ l_ 6 = r := ⟨_, rfl⟩
 replace hm := hm r104 hr
 rw [hr] at hp
 clear hr
 subst hp
 refine eP T hS ⟨[(1, Sl a2 l_ c2), (2, Pt 3 0), (6, I r104)], [(3, (24, [I o_.States, I o_.Kinds, I o_.Init, Sl a1 o_.Rows c1]))]⟩ fun a hS => ?_
 refine rP T hS ⟨[(1, Sl a2 l_ c2), (2, Pt 3 0), (6, I r104), (11, B (r104 != 0))], [(3, (24, [I o_.States, I o_.Kinds, I o_.Init, Sl a1 o_.Rows c1]))]⟩ fun a hS => ?_
 refine wcond hS (b := (r104 != 0)) kr (fun hb => ?_) (fun hb => ?_)
 ·replace hm := hm.1 hb
  refine rP T hS ⟨[(4, I 0), (5, I r104)], []⟩ fun a hS => ?_
  refine wret ?_
  exact fin T hS hO (fun c => c) rfl (r := [.int .i64 0, .int .i64 r104]) kr (fun χ' hM hC => ⟨(0, r104), hm, rfl⟩)
 ·replace hm := hm.2 hb
  refine wskip ?_
  refine drawnSX [3] mixed hS ?_
  intro w105 χ106 hS hE hD hH
  replace hO := hO.mv hE rfl rfl
  replace h1 := h1.mv hE rfl
  replace h2 := h2.mv hE rfl
  clear hE
  refine tk T [0, 1, 3, 4] [3] hS hH #[true, true, false, true, true, false, false, false] 4 ⟨[(13, V (.agg #[.int .i64 o_.States, .int .i64 o_.Kinds, .int .i64 o_.Init, .slice a1 o_.Rows.length c1])), (14, Sl a2 l_ c2), (17, I o_.Init)], [(3, (24, [I o_.States, I o_.Kinds, I o_.Init, Sl a1 o_.Rows c1]))]⟩ fun a hS => ?_
  obtain ⟨hq, hm⟩ := hm
  refine only 2 kr (by rfl) (call hS kr kr hb20 kr (fun _ _ => rfl) (k20 _ _ o_ l_ a1 c1 a2 c2 4119 2121 701 hq h1 h2) ?_)
  intro v107 a w108 χ109 hE hp hS
  clear hq
  replace hO := hO.mv hE rfl rfl
  replace hD := hD.ev hE rfl
  replace h1 := h1.mv hE rfl
  replace h2 := h2.mv hE rfl
  clear hE
  obtain ⟨a111, c112, a114, c115, a117, c118, r121, b122, hp, h113, h116, h119, hc123, h120⟩ := hp
  obtain ⟨r110, hr⟩ : ∃ r, search_begin o_ l_ = r := ⟨_, rfl⟩
  replace hm := hm r110 hr
  rw [hr] at h113 h116 h119 hc123 h120
  clear hr
  subst hp
  replace hm := hm (h113.sm kr)
  replace hm := hm (h116.sm kr)
  replace hm := hm (h119.sm kr)
  replace hS := hS.newbox (id := 701) (t := 76) (cs := [I r110.o.States, I r110.o.Kinds, I r110.o.Init, Sl a111 r110.o.Rows c112, Sl a114 r110.l c115, Sl a117 r110.done c118, V (.map (some r121))]) kr kr hc123 rfl
  replace hS := hS.convS (t := 15) (x := V (.pointer (some ⟨b122, 0, none⟩))) (y := Pt 701 0) kr rfl
  have hr124 : ∀ id, id ≠ 701 → (upd ρ 701 b122) id = ρ id := fun id h => upd_ne _ h
  generalize (upd ρ 701 b122) = ρ at hS hr124
  clear hc123
  replace hS := hS.sl ⟨[(13, V (.agg #[.int .i64 o_.States, .int .i64 o_.Kinds, .int .i64 o_.Init, .slice a1 o_.Rows.length c1])), (14, Sl a2 l_ c2), (17, I o_.Init), (15, Pt 701 0)], [(3, (24, [I o_.States, I o_.Kinds, I o_.Init, Sl a1 o_.Rows c1])), (701, (76, [I r110.o.States, I r110.o.Kinds, I r110.o.Init, Sl a111 r110.o.Rows c112, Sl a114 r110.l c115, Sl a117 r110.done c118, V (.map (some r121))]))]⟩
  refine andH ((Hold.of hS (bks := [3]) kr hD).rho hr124 kr) ?_
  intro hH
  obtain ⟨hq, hm⟩ := hm
  refine only 5 kr (by rfl) (callR hS kr kr hb22 kr (k22 _ _ o_.Init r110 a111 c112 a114 c115 a117 c118 4119 r121 2121 (ρ 701) 701 hq h113 h116 h119 h120 (hS.cell (id := 701) (t := 76) (cs := [I r110.o.States, I r110.o.Kinds, I r110.o.Init, Sl a111 r110.o.Rows c112, Sl a114 r110.l c115, Sl a117 r110.done c118, V (.map (some r121))]) kr) ⟨by decide, by decide⟩) ?_)
  intro v125 a w126 χ127 hE hp hS
  clear hq
  clear h120
  clear h119
  replace hO := hO.mv hE rfl rfl
  replace hD := hD.ev hE rfl
  replace h1 := h1.mv hE rfl
  replace h2 := h2.mv hE rfl
  replace h113 := h113.mv hE rfl
  replace h116 := h116.mv hE rfl
  clear hE
  obtain ⟨a129, c130, a132, c133, a135, c136, hp, h131, h134, h137, hc139, h138⟩ := hp
  obtain ⟨r128, hr⟩ : ∃ r, search_seeker_all o_.Init r110 = r := ⟨_, rfl⟩
  replace hm := hm r128 hr
  rw [hr] at hp h131 h134 h137 hc139 h138
  clear hr
  subst hp
  replace hm := hm (h131.sm kr)
  replace hm := hm (h134.sm kr)
  replace hm := hm (h137.sm kr)
  replace hS := hS.addbox (id := 701) (t := 76) (cs := [I r128.2.o.States, I r128.2.o.Kinds, I r128.2.o.Init, Sl a129 r128.2.o.Rows c130, Sl a132 r128.2.l c133, Sl a135 r128.2.done c136, V (.map (some r121))]) kr hc139
  clear hc139
  replace hS := hS.sl ⟨[(13, V (.agg #[.int .i64 o_.States, .int .i64 o_.Kinds, .int .i64 o_.Init, .slice a1 o_.Rows.length c1])), (14, Sl a2 l_ c2), (17, I o_.Init), (15, Pt 701 0), (18, I r128.1)], [(3, (24, [I o_.States, I o_.Kinds, I o_.Init, Sl a1 o_.Rows c1])), (701, (76, [I r128.2.o.States, I r128.2.o.Kinds, I r128.2.o.Init, Sl a129 r128.2.o.Rows c130, Sl a132 r128.2.l c133, Sl a135 r128.2.done c136, V (.map (some r121))]))]⟩
  refine andH ((Hold.of hS (bks := [3]) kr hD).rho hr124 kr) ?_
  intro hH
  refine takeZ T hr124 kr [6, 7] [3] [4, 5] hS kr kr kr hH (listed' := #[true, true, true, true, true, true, true, true]) (fuel := 0) (sy' := ⟨[(4, I r128.1), (5, I 0)], [(3, (24, [I o_.States, I o_.Kinds, I o_.Init, Sl a1 o_.Rows c1])), (701, (76, [I r128.2.o.States, I r128.2.o.Kinds, I r128.2.o.Init, Sl a129 r128.2.o.Rows c130, Sl a132 r128.2.l c133, Sl a135 r128.2.done c136, V (.map (some r121))]))]⟩) kr (by rfl) ?_
  intro a hS
  refine drawnDone kr ?_
  clear hD hH
  replace hS := hS.sl ⟨[(4, I r128.1), (5, I 0)], []⟩
  refine wret ?_
  exact fin T hS hO (fun c => c) rfl (r := [.int .i64 r128.1, .int .i64 0]) kr (fun χ' hM hC => ⟨(r128.1, 0), hm, rfl⟩)
theorem C10 (k19 : S19) (k20 : S20) (k22 : S22) (v : ∀ (o_ : Api_Object) (l_ : List Api_Oper), preSe o_ l_ → VC10 o_ l_ (fun r => r = search_Count o_ l_)) : S10 := by
 intro w χ o_ l_ a1 c1 a2 c2   hp h1 h2
 refine (W10 k19 k20 k22 w χ o_ l_ a1 c1 a2 c2   _ (v o_ l_ hp) h1 h2).mono ?_
 rintro _ _ _ _ ⟨r, rfl, h⟩
 exact h
/-- replevin/replevinlaw30.flag -/
theorem W16 (w0 : World) (χ0 : Nat → Nat) (Q : Api_Object → Prop) (hm : VC16 Q) :
  Ret Try.prog 16 #[] xnone w0 χ0 (fun w χ' v => ∃ r, Q r ∧ ∃ (ra1 : Option Addr) (rc1 : Nat), v = .agg #[.int .i64 r.States, .int .i64 r.Kinds, .int .i64 r.Init, .slice ra1 r.Rows.length rc1] ∧ RS tApi_Row w χ' ra1 r.Rows rc1) := by
 unfold VC16 at hm
 refine enter Try.func16 rfl (vals := []) kr ?_
 intro ρ a hS hO hM
 clear hM
 refine rM T hS ⟨[(0, Pt 1 0)], [(1, (24, [I 0, I 0, I 0, V (.slice none 0 0)]))]⟩ fun ρ a w107 χ108 hS hE hr => ?_
 replace hO := hO.mv hE rfl rfl
 clear hE hr
 refine regO ?_
 refine oP T hS 4 ⟨[(0, Pt 1 0), (1, V (.agg #[.int .i64 0, .int .i64 0, .int .i64 1, .int .i64 0])), (2, V (.agg #[.int .i64 0, .int .i64 1, .int .i64 0, .int .i64 0])), (3, V (.agg #[.int .i64 1, .int .i64 0, .int .i64 1, .int .i64 0])), (4, V (.agg #[.int .i64 1, .int .i64 1, .int .i64 1, .int .i64 1]))], [(1, (24, [I 0, I 0, I 0, V (.slice none 0 0)]))]⟩ fun a hS => ?_
 refine op1 (lit (E := 67) (col := 0) (T := tApi_Row) (vals := [.agg #[.int .i64 0, .int .i64 0, .int .i64 1, .int .i64 0], .agg #[.int .i64 0, .int .i64 1, .int .i64 0, .int .i64 0], .agg #[.int .i64 1, .int .i64 0, .int .i64 1, .int .i64 0], .agg #[.int .i64 1, .int .i64 1, .int .i64 1, .int .i64 1]]) (ys := [(⟨0, 0, 1, 0⟩ : Api_Row), (⟨0, 1, 0, 0⟩ : Api_Row), (⟨1, 0, 1, 0⟩ : Api_Row), (⟨1, 1, 1, 1⟩ : Api_Row)]) T hS kr kr kr kr (by exact ⟨rfl, rfl, rfl, rfl, trivial⟩) rfl kr kr kr kr ?_)
 intro b101 a w102 χ103 hE h104 hN hS
 clear hN
 replace hO := hO.mv hE rfl rfl
 clear hE
 replace h104 := h104.rs0
 refine eM T hS ⟨[(0, Pt 1 0)], [(1, (24, [I 2, I 2, I 0, Sl (some ⟨b101, 0, none⟩) [(⟨0, 0, 1, 0⟩ : Api_Row), (⟨0, 1, 0, 0⟩ : Api_Row), (⟨1, 0, 1, 0⟩ : Api_Row), (⟨1, 1, 1, 1⟩ : Api_Row)] 4]))]⟩ fun ρ a w105 χ106 hS hE hr => ?_
 replace hO := hO.mv hE rfl rfl
 replace h104 := h104.mv hE rfl
 clear hE hr
 refine wret ?_
 exact fin T hS hO (fun c => c) rfl (r := [.agg #[.int .i64 2, .int .i64 2, .int .i64 0, .slice (some ⟨b101, 0, none⟩) [(⟨0, 0, 1, 0⟩ : Api_Row), (⟨0, 1, 0, 0⟩ : Api_Row), (⟨1, 0, 1, 0⟩ : Api_Row), (⟨1, 1, 1, 1⟩ : Api_Row)].length 4]]) kr (fun χ' hM hC => ⟨(⟨2, 2, 0, [(⟨0, 0, 1, 0⟩ : Api_Row), (⟨0, 1, 0, 0⟩ : Api_Row), (⟨1, 0, 1, 0⟩ : Api_Row), (⟨1, 1, 1, 1⟩ : Api_Row)]⟩ : Api_Object), hm, (some ⟨b101, 0, none⟩), 4, rfl, h104.m0 hM⟩)
theorem C16 (v : ∀ (_ : Unit), VC16 (fun r => r = law30_flag)) : S16 := by
 intro w χ     
 refine (W16 w χ     _ (v ())).mono ?_
 rintro _ _ _ _ ⟨r, rfl, h⟩
 exact h
/-- replevin/replevinlaw30.ops -/
theorem W17 (w0 : World) (χ0 : Nat → Nat) (a_ : Int) (b_ : Int) (Q : (List Api_Oper) → Prop) (hm : VC17 a_ b_ Q) :
  Ret Try.prog 17 #[.int .i64 a_, .int .i64 b_] xnone w0 χ0 (fun w χ' v => ∃ r, Q r ∧ ∃ (ra1 : Option Addr) (rc1 : Nat), v = .slice ra1 r.length rc1 ∧ RS tApi_Oper w χ' ra1 r rc1) := by
 unfold VC17 at hm
 refine enter Try.func17 rfl (vals := [.int .i64 a_, .int .i64 b_]) kr ?_
 intro ρ a hS hO hM
 clear hM
 refine rP T hS ⟨[(0, I a_), (1, I b_)], []⟩ fun a hS => ?_
 refine regO ?_
 refine oP T hS 5 ⟨[(5, V (.agg #[.int .i64 1, .int .i64 0, .int .i64 0, .int .i64 3, .int .i64 0])), (7, V (.agg #[.int .i64 2, .int .i64 1, .int .i64 1, .int .i64 2, .int .i64 a_])), (9, V (.agg #[.int .i64 2, .int .i64 1, .int .i64 4, .int .i64 5, .int .i64 b_]))], []⟩ fun a hS => ?_
 refine op1 (lit (E := 45) (col := 0) (T := tApi_Oper) (vals := [.agg #[.int .i64 1, .int .i64 0, .int .i64 0, .int .i64 3, .int .i64 0], .agg #[.int .i64 2, .int .i64 1, .int .i64 1, .int .i64 2, .int .i64 a_], .agg #[.int .i64 2, .int .i64 1, .int .i64 4, .int .i64 5, .int .i64 b_]]) (ys := [(⟨1, 0, 0, 3, 0⟩ : Api_Oper), (⟨2, 1, 1, 2, a_⟩ : Api_Oper), (⟨2, 1, 4, 5, b_⟩ : Api_Oper)]) T hS kr kr kr kr (by exact ⟨rfl, rfl, rfl, trivial⟩) rfl kr kr kr kr ?_)
 intro b101 a w102 χ103 hE h104 hN hS
 clear hN
 replace hO := hO.mv hE rfl rfl
 clear hE
 replace h104 := h104.rs0
 refine eP T hS ⟨[(4, Sl (some ⟨b101, 0, none⟩) [(⟨1, 0, 0, 3, 0⟩ : Api_Oper), (⟨2, 1, 1, 2, a_⟩ : Api_Oper), (⟨2, 1, 4, 5, b_⟩ : Api_Oper)] 3)], []⟩ fun a hS => ?_
 refine wret ?_
 exact fin T hS hO (fun c => c) rfl (r := [.slice (some ⟨b101, 0, none⟩) [(⟨1, 0, 0, 3, 0⟩ : Api_Oper), (⟨2, 1, 1, 2, a_⟩ : Api_Oper), (⟨2, 1, 4, 5, b_⟩ : Api_Oper)].length 3]) kr (fun χ' hM hC => ⟨[(⟨1, 0, 0, 3, 0⟩ : Api_Oper), (⟨2, 1, 1, 2, a_⟩ : Api_Oper), (⟨2, 1, 4, 5, b_⟩ : Api_Oper)], hm, (some ⟨b101, 0, none⟩), 3, rfl, h104.m0 hM⟩)
theorem C17 (v : ∀ (a_ : Int) (b_ : Int), VC17 a_ b_ (fun r => r = law30_ops a_ b_)) : S17 := by
 intro w χ a_ b_    
 refine (W17 w χ a_ b_    _ (v a_ b_)).mono ?_
 rintro _ _ _ _ ⟨r, rfl, h⟩
 exact h
end Go.Proofs.Ytomodhnocjmfpaa
