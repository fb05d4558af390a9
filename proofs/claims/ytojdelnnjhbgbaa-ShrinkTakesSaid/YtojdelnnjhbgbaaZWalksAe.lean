/- Walks: each function returns what its condition asks. Condition: the contracts of its callees, handed in. -/
import Derived.Test.YtojdelnnjhbgbaaZWalksS
set_option linter.all false
namespace Go.Proofs.Ytojdelnnjhbgbaa
open Go Go.Sv
set_option maxHeartbeats 1000000
theorem W10 (k24 : S24) (k25 : S25) (k9 : S9) (w0 : World) (χ0 : Nat → Nat) (c_ : Histtext_Case) (a1 : Option Addr) (c1 : Nat) (a2 : Option Addr) (c2 : Nat) (Q : Bool × Int → Prop) (hm : VC10 c_ Q) (h1 : RS tApi_Row w0 χ0 a1 c_.Object.Rows c1) (h2 : RS tApi_Event w0 χ0 a2 c_.Events c2) :
  Ret Try.prog 10 #[.agg #[.int .i64 c_.Object.States, .int .i64 c_.Object.Kinds, .int .i64 c_.Object.Init, .slice a1 c_.Object.Rows.length c1, .slice a2 c_.Events.length c2]] xnone w0 χ0 (fun w χ' v => ∃ r, Q r ∧ v = .tuple #[.bool r.1, .int .i64 r.2]) := by
 unfold VC10 at hm
 replace hm := hm (h1.sm kr)
 replace hm := hm (h2.sm kr)
 refine enter Try.func10 rfl (vals := [.agg #[.int .i64 c_.Object.States, .int .i64 c_.Object.Kinds, .int .i64 c_.Object.Init, .slice a1 c_.Object.Rows.length c1, .slice a2 c_.Events.length c2]]) kr ?_
 intro ρ a hS hO hM
 replace h1 := h1.m0 hM
 replace h2 := h2.m0 hM
 clear hM
 refine rM T hS ⟨[(1, Pt 2 0)], [(2, (33, [I c_.Object.States, I c_.Object.Kinds, I c_.Object.Init, Sl a1 c_.Object.Rows c1, Sl a2 c_.Events c2]))]⟩ fun ρ a w116 χ117 hS hE hr => ?_
 replace hO := hO.mv hE rfl rfl
 replace h1 := h1.mv hE rfl
 replace h2 := h2.mv hE rfl
 clear hE hr
 refine wseq ?_
 refine regO ?_
 refine oP T hS 1 ⟨[(1, Pt 2 0), (7, V (.agg #[.int .i64 c_.Object.States, .int .i64 c_.Object.Kinds, .int .i64 c_.Object.Init, .slice a1 c_.Object.Rows.length c1, .slice a2 c_.Events.length c2]))], [(2, (33, [I c_.Object.States, I c_.Object.Kinds, I c_.Object.Init, Sl a1 c_.Object.Rows c1, Sl a2 c_.Events c2]))]⟩ fun a hS => ?_
 obtain ⟨hq, hm⟩ := hm
 refine op1 (call hS kr kr hb24 kr (fun _ _ => rfl) (k24 _ _ c_ a1 c1 a2 c2 hq h1 h2) ?_)
 intro v101 a w102 χ103 hE hp hS
 replace hO := hO.mv hE rfl rfl
 replace h1 := h1.mv hE rfl
 replace h2 := h2.mv hE rfl
 obtain ⟨r104, hr⟩ : ∃ r, histtext_Check c_ = r := ⟨_, rfl⟩
 replace hm := hm r104 hr
 rw [hr] at hp
 clear hr
 subst hp
 refine eP T hS ⟨[(1, Pt 2 0), (4, I r104)], [(2, (33, [I c_.Object.States, I c_.Object.Kinds, I c_.Object.Init, Sl a1 c_.Object.Rows c1, Sl a2 c_.Events c2]))]⟩ fun a hS => ?_
 refine rP T hS ⟨[(1, Pt 2 0), (4, I r104), (10, B (r104 != 0))], [(2, (33, [I c_.Object.States, I c_.Object.Kinds, I c_.Object.Init, Sl a1 c_.Object.Rows c1, Sl a2 c_.Events c2]))]⟩ fun a hS => ?_
 refine wcond hS (b := (r104 != 0)) kr (fun hb => ?_) (fun hb => ?_)
 ·replace hm := hm.1 hb
  refine rP T hS ⟨[(2, B false), (3, I r104)], []⟩ fun a hS => ?_
  refine wret ?_
  exact fin T hS hO (fun c => c) rfl (r := [.bool false, .int .i64 r104]) kr (fun χ' hM hC => ⟨(false, r104), hm, rfl⟩)
 replace hm := hm.2 hb
 refine wskip ?_
 refine regO ?_
 refine oP T hS 2 ⟨[(1, Pt 2 0), (14, Sl a2 c_.Events c2)], [(2, (33, [I c_.Object.States, I c_.Object.Kinds, I c_.Object.Init, Sl a1 c_.Object.Rows c1, Sl a2 c_.Events c2]))]⟩ fun a hS => ?_
 refine op1 (call hS kr kr hb9 kr (fun _ _ => rfl) (k9 _ _ c_.Events a2 c2 h2) ?_)
 intro v105 a w106 χ107 hE hp hS
 replace hO := hO.mv hE rfl rfl
 replace h1 := h1.mv hE rfl
 replace h2 := h2.mv hE rfl
 obtain ⟨a109, c110, hp, h111⟩ := hp
 obtain ⟨r108, hr⟩ : ∃ r, oper_Of c_.Events = r := ⟨_, rfl⟩
 replace hm := hm r108 hr
 rw [hr] at hp h111
 clear hr
 subst hp
 replace hm := hm (h111.sm kr)
 refine eP T hS ⟨[(1, Pt 2 0), (5, Sl a109 r108.1 c110), (6, I r108.2)], [(2, (33, [I c_.Object.States, I c_.Object.Kinds, I c_.Object.Init, Sl a1 c_.Object.Rows c1, Sl a2 c_.Events c2]))]⟩ fun a hS => ?_
 refine wseq (rP T hS ⟨[(1, Pt 2 0), (5, Sl a109 r108.1 c110), (6, I r108.2), (19, B (r108.2 != 0))], [(2, (33, [I c_.Object.States, I c_.Object.Kinds, I c_.Object.Init, Sl a1 c_.Object.Rows c1, Sl a2 c_.Events c2]))]⟩ fun a hS => ?_)
 refine wcond hS (b := (r108.2 != 0)) kr (fun hb => ?_) (fun hb => ?_)
 ·replace hm := hm.1 hb
  refine rP T hS ⟨[(2, B false), (3, I r108.2)], []⟩ fun a hS => ?_
  refine wret ?_
  exact fin T hS hO (fun c => c) rfl (r := [.bool false, .int .i64 r108.2]) kr (fun χ' hM hC => ⟨(false, r108.2), hm, rfl⟩)
 replace hm := hm.2 hb
 refine wskip ?_
 refine regO ?_
 refine oP T hS 3 ⟨[(22, V (.agg #[.int .i64 c_.Object.States, .int .i64 c_.Object.Kinds, .int .i64 c_.Object.Init, .slice a1 c_.Object.Rows.length c1])), (23, Sl a109 r108.1 c110)], []⟩ fun a hS => ?_
 obtain ⟨hq, hm⟩ := hm
 refine op1 (call hS kr kr hb25 kr (fun _ _ => rfl) (k25 _ _ c_.Object r108.1 a1 c1 a109 c110 hq h1 h111) ?_)
 intro v112 a w113 χ114 hE hp hS
 replace hO := hO.mv hE rfl rfl
 replace h1 := h1.mv hE rfl
 replace h111 := h111.mv hE rfl
 obtain ⟨r115, hr⟩ : ∃ r, search_Lin c_.Object r108.1 = r := ⟨_, rfl⟩
 replace hm := hm r115 hr
 rw [hr] at hp
 clear hr
 subst hp
 refine eP T hS ⟨[(2, B r115.1), (3, I r115.2)], []⟩ fun a hS => ?_
 refine wret ?_
 exact fin T hS hO (fun c => c) rfl (r := [.bool r115.1, .int .i64 r115.2]) kr (fun χ' hM hC => ⟨(r115.1, r115.2), hm, rfl⟩)
theorem C10 (k24 : S24) (k25 : S25) (k9 : S9) (v : ∀ (c_ : Histtext_Case), preCa c_ → VC10 c_ (fun r => r = shrink_Lin c_)) : S10 := by
 intro w χ c_ a1 c1 a2 c2   hp h1 h2
 refine (W10 k24 k25 k9 w χ c_ a1 c1 a2 c2   _ (v c_ hp) h1 h2).mono ?_
 rintro _ _ _ _ ⟨r, rfl, h⟩
 exact h
theorem W31 (w0 : World) (χ0 : Nat → Nat) (c_ : Histtext_Case) (a1 : Option Addr) (c1 : Nat) (a2 : Option Addr) (c2 : Nat) (col1 : Nat) (Q : Histtext_Case → Prop) (hm : VC31 c_ Q) (h1 : RS tApi_Row w0 χ0 a1 c_.Object.Rows c1) (h2 : RS tApi_Event w0 χ0 a2 c_.Events c2) :
  Ret Try.prog 31 #[.agg #[.int .i64 c_.Object.States, .int .i64 c_.Object.Kinds, .int .i64 c_.Object.Init, .slice a1 c_.Object.Rows.length c1, .slice a2 c_.Events.length c2]] xnone w0 χ0 (fun w χ' v => ∃ r, Q r ∧ ∃ (ra1 : Option Addr) (rc1 : Nat) (ra2 : Option Addr) (rc2 : Nat) (rb1 : Nat), v = .func (.func 48) #[] #[.pointer (some ⟨rb1, 0, none⟩)] ∧ RS tApi_Row w χ' ra1 r.Object.Rows rc1 ∧ RS tApi_Event w χ' ra2 r.Events rc2 ∧ Cell w χ' rb1 col1 33 [.int .i64 r.Object.States, .int .i64 r.Object.Kinds, .int .i64 r.Object.Init, .slice ra1 r.Object.Rows.length rc1, .slice ra2 r.Events.length rc2]) := by
 unfold VC31 at hm
 replace hm := hm (h1.sm kr)
 replace hm := hm (h2.sm kr)
 refine enter Try.func31 rfl (vals := [.agg #[.int .i64 c_.Object.States, .int .i64 c_.Object.Kinds, .int .i64 c_.Object.Init, .slice a1 c_.Object.Rows.length c1, .slice a2 c_.Events.length c2]]) kr ?_
 intro ρ a hS hO hM
 replace h1 := h1.m0 hM
 replace h2 := h2.m0 hM
 clear hM
 refine rM T hS ⟨[(1, Pt 2 0)], [(2, (33, [I c_.Object.States, I c_.Object.Kinds, I c_.Object.Init, Sl a1 c_.Object.Rows c1, Sl a2 c_.Events c2]))]⟩ fun ρ a w101 χ102 hS hE hr => ?_
 replace hO := hO.mv hE rfl rfl
 replace h1 := h1.mv hE rfl
 replace h2 := h2.mv hE rfl
 clear hE hr
 refine rP T hS ⟨[(2, .f (.func 48) [] [.p 2 0])], [(2, (33, [I c_.Object.States, I c_.Object.Kinds, I c_.Object.Init, Sl a1 c_.Object.Rows c1, Sl a2 c_.Events c2]))]⟩ fun a hS => ?_
 refine wret ?_
 exact fin T hS hO (fun c => (bif Nat.beq c 2 then col1 else c)) rfl (r := [.func (.func 48) #[] #[.pointer (some ⟨ρ 2, 0, none⟩)]]) kr (fun χ' hM hC => ⟨c_, hm, a1, c1, a2, c2, (ρ 2), rfl, h1.m0 hM, h2.m0 hM, ((hS.cell (id := 2) (t := 33) (cs := [I c_.Object.States, I c_.Object.Kinds, I c_.Object.Init, Sl a1 c_.Object.Rows c1, Sl a2 c_.Events c2]) kr).out (f := (fun c => (bif Nat.beq c 2 then col1 else c))) hC kr kr rfl)⟩)
theorem C31 (v : ∀ (c_ : Histtext_Case), VC31 c_ (fun r => r = shrink_asker c_)) : S31 := by
 intro w χ c_ a1 c1 a2 c2 col1  h1 h2
 refine (W31 w χ c_ a1 c1 a2 c2 col1  _ (v c_) h1 h2).mono ?_
 rintro _ _ _ _ ⟨r, rfl, h⟩
 exact h
theorem W48 (k10 : S10) (w0 : World) (χ0 : Nat → Nat) (n_ : Int) (cap1 : Histtext_Case) (a1 : Option Addr) (c1 : Nat) (a2 : Option Addr) (c2 : Nat) (b1 : Nat) (i1 : Nat) (Q : Bool → Prop) (hm : VC48 n_ cap1 Q) (h1 : RS tApi_Row w0 χ0 a1 cap1.Object.Rows c1) (h2 : RS tApi_Event w0 χ0 a2 cap1.Events c2) (hc1 : Cell w0 χ0 b1 i1 33 [.int .i64 cap1.Object.States, .int .i64 cap1.Object.Kinds, .int .i64 cap1.Object.Init, .slice a1 cap1.Object.Rows.length c1, .slice a2 cap1.Events.length c2]) (hA : Apart [i1]) :
  Ret Try.prog 48 #[.int .i64 n_, .pointer (some ⟨b1, 0, none⟩)] (pR [i1]) w0 χ0 (fun w χ' v => ∃ r, Q r ∧ v = .bool r ∧ Cell w χ' b1 i1 33 [.int .i64 cap1.Object.States, .int .i64 cap1.Object.Kinds, .int .i64 cap1.Object.Init, .slice a1 cap1.Object.Rows.length c1, .slice a2 cap1.Events.length c2]) := by
 unfold VC48 at hm
 replace hm := hm (h1.sm kr)
 replace hm := hm (h2.sm kr)
 refine enterR Try.func48 rfl (f0of [(i1, 901)]) (fun id => (bif Nat.beq id 901 then b1 else 0)) (args := [I n_, Pt 901 0]) (bxs := [(901, (33, [I cap1.Object.States, I cap1.Object.Kinds, I cap1.Object.Init, Sl a1 cap1.Object.Rows c1, Sl a2 cap1.Events c2]))]) kr rfl (BoxesOK.cons kr (hc1.map (f0of_at 0 hA.1 rfl)) BoxesOK.nil) (f0of_0 (fun q hq => (hA.2 q.1 (List.mem_map.2 ⟨q, hq, rfl⟩)).1)) ?_
 intro a hS hO hM
 have hP : Pin [(901, b1)] (fun id => (bif Nat.beq id 901 then b1 else 0)) := by intro q hq; simp at hq; rcases hq with rfl <;> rfl
 generalize (fun id => (bif Nat.beq id 901 then b1 else 0)) = ρ at hS hP
 clear hc1
 replace h1 := h1.m0 hM
 replace h2 := h2.m0 hM
 clear hM
 refine rP T hS ⟨[(0, I n_), (1, Pt 901 0)], [(901, (33, [I cap1.Object.States, I cap1.Object.Kinds, I cap1.Object.Init, Sl a1 cap1.Object.Rows c1, Sl a2 cap1.Events c2]))]⟩ fun a hS => ?_
 refine drawnSX [901] mixed hS ?_
 intro w101 χ102 hS hE hD hH
 replace hO := hO.mv hE rfl rfl
 replace h1 := h1.mv hE rfl
 replace h2 := h2.mv hE rfl
 refine tk T [0, 2, 4, 1, 3] [901] hS hH #[true, true, true, true, true, false, false, false, false, false, false, false, false] 8 ⟨[(8, V (.agg #[.int .i64 cap1.Object.States, .int .i64 cap1.Object.Kinds, .int .i64 cap1.Object.Init, .slice a1 cap1.Object.Rows.length c1])), (10, Sl a2 cap1.Events c2), (11, I n_)], [(901, (33, [I cap1.Object.States, I cap1.Object.Kinds, I cap1.Object.Init, Sl a1 cap1.Object.Rows c1, Sl a2 cap1.Events c2]))]⟩ fun a hS => ?_
 obtain ⟨hq, hm⟩ := hm
 refine dslice0 (E := 54) (kh := .i64) T 5 hS kr kr kr (by rfl) kr hH kr kr h2 kr kr hq.1 hq.2 ?_
 intro a103 c104 a h105 hS
 refine tk T [6] [901] hS hH #[true, true, true, true, true, true, true, false, false, false, false, false, false] 6 ⟨[(13, V (.agg #[.int .i64 cap1.Object.States, .int .i64 cap1.Object.Kinds, .int .i64 cap1.Object.Init, .slice a1 cap1.Object.Rows.length c1, .slice a103 (cap1.Events.take n_.toNat).length c104]))], [(901, (33, [I cap1.Object.States, I cap1.Object.Kinds, I cap1.Object.Init, Sl a1 cap1.Object.Rows c1, Sl a2 cap1.Events c2]))]⟩ fun a hS => ?_
 obtain ⟨hq, hm⟩ := hm
 refine only 7 kr (by rfl) (call hS kr kr hb10 kr (fun _ _ => rfl) (k10 _ _ (⟨cap1.Object, cap1.Events.take n_.toNat⟩ : Histtext_Case) a1 c1 a103 c104 hq h1 h105) ?_)
 intro v106 a w107 χ108 hE hp hS
 replace hO := hO.mv hE rfl rfl
 replace hD := hD.ev hE rfl
 replace h1 := h1.mv hE rfl
 replace h2 := h2.mv hE rfl
 replace h105 := h105.mv hE rfl
 obtain ⟨r109, hr⟩ : ∃ r, shrink_Lin (⟨cap1.Object, cap1.Events.take n_.toNat⟩ : Histtext_Case) = r := ⟨_, rfl⟩
 replace hm := hm r109 hr
 rw [hr] at hp
 clear hr
 subst hp
 replace hS := hS.sl ⟨[(13, V (.agg #[.int .i64 cap1.Object.States, .int .i64 cap1.Object.Kinds, .int .i64 cap1.Object.Init, .slice a1 cap1.Object.Rows.length c1, .slice a103 (cap1.Events.take n_.toNat).length c104])), (14, V (.tuple #[.bool r109.1, .int .i64 r109.2]))], [(901, (33, [I cap1.Object.States, I cap1.Object.Kinds, I cap1.Object.Init, Sl a1 cap1.Object.Rows c1, Sl a2 cap1.Events c2]))]⟩
 refine andH (Hold.of hS (bks := [901]) kr hD) ?_
 intro hH
 refine tk T [8, 9, 10, 11, 12] [901] hS hH #[true, true, true, true, true, true, true, true, true, true, true, true, true] 0 ⟨[(4, B r109.1), (5, I r109.2)], [(901, (33, [I cap1.Object.States, I cap1.Object.Kinds, I cap1.Object.Init, Sl a1 cap1.Object.Rows c1, Sl a2 cap1.Events c2]))]⟩ fun a hS => ?_
 refine drawnDone kr ?_
 clear hD hH
 replace hS := hS.sl ⟨[(4, B r109.1), (5, I r109.2)], [(901, (33, [I cap1.Object.States, I cap1.Object.Kinds, I cap1.Object.Init, Sl a1 cap1.Object.Rows c1, Sl a2 cap1.Events c2]))]⟩
 refine rP T hS ⟨[(3, B ((r109.2 == 0) && (!r109.1)))], [(901, (33, [I cap1.Object.States, I cap1.Object.Kinds, I cap1.Object.Init, Sl a1 cap1.Object.Rows c1, Sl a2 cap1.Events c2]))]⟩ (sp := [19]) fun a hS => ?_
 refine wret ?_
 exact finR T hS hO (fun c h => f0of_zero kr h) (fun c h => f0of_else (l := [(i1, 901)]) h) (f1of [(i1, 901)]) rfl (r := [.bool ((r109.2 == 0) && (!r109.1))]) kr (fun χ' hM hC => ⟨((r109.2 == 0) && (!r109.1)), hm, rfl, ((hS.cell (id := 901) (t := 33) (cs := [I cap1.Object.States, I cap1.Object.Kinds, I cap1.Object.Init, Sl a1 cap1.Object.Rows c1, Sl a2 cap1.Events c2]) kr).out (f := (f1of [(i1, 901)])) hC kr kr (hP.at 0 rfl))⟩)
theorem C48 (k10 : S10) (v : ∀ (n_ : Int) (cap1 : Histtext_Case), preAs n_ cap1 → VC48 n_ cap1 (fun r => r = shrink_asker_1 n_ cap1)) : S48 := by
 intro w χ n_ cap1 a1 c1 a2 c2  b1 i1 hp h1 h2 hc1 hA
 refine (W48 k10 w χ n_ cap1 a1 c1 a2 c2  b1 i1 _ (v n_ cap1 hp) h1 h2 hc1 hA).mono ?_
 rintro _ _ _ _ ⟨r, rfl, h⟩
 exact h
theorem W30_48 (k48 : S48) (w0 : World) (χ0 : Nat → Nat) (n_ : Int) (cap1 : Histtext_Case) (a1 : Option Addr) (c1 : Nat) (a2 : Option Addr) (c2 : Nat) (b1 : Nat) (i1 : Nat) (Q : Int → Prop) (hm : VC30_48 n_ cap1 Q) (h1 : RS tApi_Row w0 χ0 a1 cap1.Object.Rows c1) (h2 : RS tApi_Event w0 χ0 a2 cap1.Events c2) (hc1 : Cell w0 χ0 b1 i1 33 [.int .i64 cap1.Object.States, .int .i64 cap1.Object.Kinds, .int .i64 cap1.Object.Init, .slice a1 cap1.Object.Rows.length c1, .slice a2 cap1.Events.length c2]) (hA : Apart [i1]) :
  Ret Try.prog 30 #[.int .i64 n_, .func (.func 48) #[] #[.pointer (some ⟨b1, 0, none⟩)]] (pR [i1]) w0 χ0 (fun w χ' v => ∃ r, Q r ∧ v = .int .i64 r ∧ Cell w χ' b1 i1 33 [.int .i64 cap1.Object.States, .int .i64 cap1.Object.Kinds, .int .i64 cap1.Object.Init, .slice a1 cap1.Object.Rows.length c1, .slice a2 cap1.Events.length c2]) := by
 unfold VC30_48 at hm
 replace hm := hm (h1.sm kr)
 replace hm := hm (h2.sm kr)
 refine enterR Try.func30 rfl (f0of [(i1, 901)]) (fun id => (bif Nat.beq id 901 then b1 else 0)) (args := [I n_, .f (.func 48) [] [.p 901 0]]) (bxs := [(901, (33, [I cap1.Object.States, I cap1.Object.Kinds, I cap1.Object.Init, Sl a1 cap1.Object.Rows c1, Sl a2 cap1.Events c2]))]) kr rfl (BoxesOK.cons kr (hc1.map (f0of_at 0 hA.1 rfl)) BoxesOK.nil) (f0of_0 (fun q hq => (hA.2 q.1 (List.mem_map.2 ⟨q, hq, rfl⟩)).1)) ?_
 intro a hS hO hM
 have hP : Pin [(901, b1)] (fun id => (bif Nat.beq id 901 then b1 else 0)) := by intro q hq; simp at hq; rcases hq with rfl <;> rfl
 generalize (fun id => (bif Nat.beq id 901 then b1 else 0)) = ρ at hS hP
 clear hc1
 replace h1 := h1.m0 hM
 replace h2 := h2.m0 hM
 clear hM
 refine rP T hS ⟨[(0, I n_), (1, .f (.func 48) [] [.p 901 0])], [(901, (33, [I cap1.Object.States, I cap1.Object.Kinds, I cap1.Object.Init, Sl a1 cap1.Object.Rows c1, Sl a2 cap1.Events c2]))]⟩ fun a hS => ?_
 refine rP T hS ⟨[(1, .f (.func 48) [] [.p 901 0]), (5, I 0), (6, I n_)], [(901, (33, [I cap1.Object.States, I cap1.Object.Kinds, I cap1.Object.Init, Sl a1 cap1.Object.Rows c1, Sl a2 cap1.Events c2]))]⟩ fun a hS => ?_
 refine wcut (fun a w => ∃ (ρ : Nat → Nat) (χ : Nat → Nat) (i_101 : Int), VC30_48_J1 Q i_101 ∧ St Try.f30.ntmps ⟨[(5, I i_101)], [(901, (33, [I cap1.Object.States, I cap1.Object.Kinds, I cap1.Object.Init, Sl a1 cap1.Object.Rows c1, Sl a2 cap1.Events c2]))]⟩ ρ a w χ ∧ OldR (f0of [(i1, 901)]) w0 χ0 w χ ∧ Pin [(901, b1)] ρ ∧ RS tApi_Row w χ a1 cap1.Object.Rows c1 ∧ RS tApi_Event w χ a2 cap1.Events c2) ?_ ?_
 ·refine wblock ?_
  obtain ⟨I1, μ1, hm0, hm⟩ := hm
  refine wloop (σ := Int × Int) (fun s a w => ∃ (ρ : Nat → Nat) (χ : Nat → Nat), I1 s.1 s.2 ∧ St Try.f30.ntmps ⟨[(1, .f (.func 48) [] [.p 901 0]), (5, I s.1), (6, I s.2)], [(901, (33, [I cap1.Object.States, I cap1.Object.Kinds, I cap1.Object.Init, Sl a1 cap1.Object.Rows c1, Sl a2 cap1.Events c2]))]⟩ ρ a w χ ∧ OldR (f0of [(i1, 901)]) w0 χ0 w χ ∧ Pin [(901, b1)] ρ ∧ RS tApi_Row w χ a1 cap1.Object.Rows c1 ∧ RS tApi_Event w χ a2 cap1.Events c2) (fun s => μ1 s.1 s.2) (⟨0, n_⟩) ?_ ?_
  ·exact ⟨ρ, _, hm0, hS.sl _, hO, hP, h1, h2⟩
  rintro ⟨i_104, j_105⟩ a w114 ⟨ρ, χ113, hI, hS, hO, hP, h106, h107⟩
  replace hm := hm i_104 j_105 hI
  clear hI hm0
  refine wseq (rP T hS ⟨[(1, .f (.func 48) [] [.p 901 0]), (5, I i_104), (6, I j_105), (11, B (decide (i_104 < j_105)))], [(901, (33, [I cap1.Object.States, I cap1.Object.Kinds, I cap1.Object.Init, Sl a1 cap1.Object.Rows c1, Sl a2 cap1.Events c2]))]⟩ fun a hS => ?_)
  refine wcond hS (b := decide (i_104 < j_105)) kr (fun hb => ?_) (fun hb => ?_)
  ·replace hm := hm.1 hb
   refine wskip ?_
   refine wblock ?_
   refine rP T hS ⟨[(1, .f (.func 48) [] [.p 901 0]), (5, I i_104), (6, I j_105), (7, I (wR (((IntKind.u64.wrap (wR (i_104 + j_105)))).fdiv (2 ^ 1))))], [(901, (33, [I cap1.Object.States, I cap1.Object.Kinds, I cap1.Object.Init, Sl a1 cap1.Object.Rows c1, Sl a2 cap1.Events c2]))]⟩ fun a hS => ?_
   refine regO ?_
   refine oP T hS 2 ⟨[(1, .f (.func 48) [] [.p 901 0]), (5, I i_104), (6, I j_105), (7, I (wR (((IntKind.u64.wrap (wR (i_104 + j_105)))).fdiv (2 ^ 1)))), (18, .f (.func 48) [] [.p 901 0]), (19, I (wR (((IntKind.u64.wrap (wR (i_104 + j_105)))).fdiv (2 ^ 1))))], [(901, (33, [I cap1.Object.States, I cap1.Object.Kinds, I cap1.Object.Init, Sl a1 cap1.Object.Rows c1, Sl a2 cap1.Events c2]))]⟩ fun a hS => ?_
   obtain ⟨hq, hm⟩ := hm
   refine op1 (callCR (fi := []) (cp := [.p 901 0]) hS kr kr hb48 kr kr (k48 _ _ (wR (((IntKind.u64.wrap (wR (i_104 + j_105)))).fdiv (2 ^ 1))) cap1 a1 c1 a2 c2 (ρ 901) 901 hq h106 h107 (hS.cell (id := 901) (t := 33) (cs := [I cap1.Object.States, I cap1.Object.Kinds, I cap1.Object.Init, Sl a1 cap1.Object.Rows c1, Sl a2 cap1.Events c2]) kr) ⟨by decide, by decide⟩) ?_)
   intro v108 a w109 χ110 hE hp hS
   replace hO := hO.mv hE rfl rfl
   replace h106 := h106.mv hE rfl
   replace h107 := h107.mv hE rfl
   obtain ⟨hp, hc112⟩ := hp
   obtain ⟨r111, hr⟩ : ∃ r, shrink_asker_1 (wR (((IntKind.u64.wrap (wR (i_104 + j_105)))).fdiv (2 ^ 1))) cap1 = r := ⟨_, rfl⟩
   replace hm := hm r111 hr
   rw [hr] at hp
   clear hr
   subst hp
   replace hS := hS.addbox (id := 901) (t := 33) (cs := [I cap1.Object.States, I cap1.Object.Kinds, I cap1.Object.Init, Sl a1 cap1.Object.Rows c1, Sl a2 cap1.Events c2]) kr hc112
   clear hc112
   refine eP T hS ⟨[(1, .f (.func 48) [] [.p 901 0]), (5, I i_104), (6, I j_105), (7, I (wR (((IntKind.u64.wrap (wR (i_104 + j_105)))).fdiv (2 ^ 1)))), (21, B (!r111))], [(901, (33, [I cap1.Object.States, I cap1.Object.Kinds, I cap1.Object.Init, Sl a1 cap1.Object.Rows c1, Sl a2 cap1.Events c2]))]⟩ fun a hS => ?_
   refine wcond hS (b := (!r111)) kr (fun hb => ?_) (fun hb => ?_)
   ·replace hm := hm.1 hb
    refine region (eP T hS ⟨[(1, .f (.func 48) [] [.p 901 0]), (5, I (wR ((wR (((IntKind.u64.wrap (wR (i_104 + j_105)))).fdiv (2 ^ 1))) + 1))), (6, I j_105)], [(901, (33, [I cap1.Object.States, I cap1.Object.Kinds, I cap1.Object.Init, Sl a1 cap1.Object.Rows c1, Sl a2 cap1.Events c2]))]⟩ fun a hS => ?_)
    exact ⟨⟨wR ((wR (((IntKind.u64.wrap (wR (i_104 + j_105)))).fdiv (2 ^ 1))) + 1), j_105⟩, ⟨ρ, _, hm.1, hS.sl _, hO, hP, h106, h107⟩, hm.2⟩
   replace hm := hm.2 hb
   refine region (eP T hS ⟨[(1, .f (.func 48) [] [.p 901 0]), (5, I i_104), (6, I (wR (((IntKind.u64.wrap (wR (i_104 + j_105)))).fdiv (2 ^ 1))))], [(901, (33, [I cap1.Object.States, I cap1.Object.Kinds, I cap1.Object.Init, Sl a1 cap1.Object.Rows c1, Sl a2 cap1.Events c2]))]⟩ fun a hS => ?_)
   exact ⟨⟨i_104, wR (((IntKind.u64.wrap (wR (i_104 + j_105)))).fdiv (2 ^ 1))⟩, ⟨ρ, _, hm.1, hS.sl _, hO, hP, h106, h107⟩, hm.2⟩
  replace hm := hm.2 hb
  refine wexit (by rfl) ?_
  exact ⟨ρ, _, i_104, hm, hS.sl _, hO, hP, h106, h107⟩
 rintro a w116 ⟨ρ, χ115, i_101, hm, hS, hO, hP, h102, h103⟩
 unfold VC30_48_J1 at hm
 refine rP T hS ⟨[(4, I i_101)], [(901, (33, [I cap1.Object.States, I cap1.Object.Kinds, I cap1.Object.Init, Sl a1 cap1.Object.Rows c1, Sl a2 cap1.Events c2]))]⟩ fun a hS => ?_
 refine wret ?_
 exact finR T hS hO (fun c h => f0of_zero kr h) (fun c h => f0of_else (l := [(i1, 901)]) h) (f1of [(i1, 901)]) rfl (r := [.int .i64 i_101]) kr (fun χ' hM hC => ⟨i_101, hm, rfl, ((hS.cell (id := 901) (t := 33) (cs := [I cap1.Object.States, I cap1.Object.Kinds, I cap1.Object.Init, Sl a1 cap1.Object.Rows c1, Sl a2 cap1.Events c2]) kr).out (f := (f1of [(i1, 901)])) hC kr kr (hP.at 0 rfl))⟩)
theorem C30_48 (k48 : S48) (v : ∀ (n_ : Int) (cap1 : Histtext_Case), preBs n_ cap1 → VC30_48 n_ cap1 (fun r => r = sort_Search_shrink_asker_1 n_ cap1)) : S30_48 := by
 intro w χ n_ cap1 a1 c1 a2 c2  b1 i1 hp h1 h2 hc1 hA
 refine (W30_48 k48 w χ n_ cap1 a1 c1 a2 c2  b1 i1 _ (v n_ cap1 hp) h1 h2 hc1 hA).mono ?_
 rintro _ _ _ _ ⟨r, rfl, h⟩
 exact h
theorem W12 (k10 : S10) (k30_48 : S30_48) (k31 : S31) (w0 : World) (χ0 : Nat → Nat) (c_ : Histtext_Case) (a1 : Option Addr) (c1 : Nat) (a2 : Option Addr) (c2 : Nat) (Q : Int × Int → Prop) (hm : VC12 c_ Q) (h1 : RS tApi_Row w0 χ0 a1 c_.Object.Rows c1) (h2 : RS tApi_Event w0 χ0 a2 c_.Events c2) :
  Ret Try.prog 12 #[.agg #[.int .i64 c_.Object.States, .int .i64 c_.Object.Kinds, .int .i64 c_.Object.Init, .slice a1 c_.Object.Rows.length c1, .slice a2 c_.Events.length c2]] xnone w0 χ0 (fun w χ' v => ∃ r, Q r ∧ v = .tuple #[.int .i64 r.1, .int .i64 r.2]) := by
 unfold VC12 at hm
 replace hm := hm (h1.sm kr)
 replace hm := hm (h2.sm kr)
 refine enter Try.func12 rfl (vals := [.agg #[.int .i64 c_.Object.States, .int .i64 c_.Object.Kinds, .int .i64 c_.Object.Init, .slice a1 c_.Object.Rows.length c1, .slice a2 c_.Events.length c2]]) kr ?_
 intro ρ a hS hO hM
 replace h1 := h1.m0 hM
 replace h2 := h2.m0 hM
 clear hM
 refine rM T hS ⟨[(1, Pt 2 0)], [(2, (33, [I c_.Object.States, I c_.Object.Kinds, I c_.Object.Init, Sl a1 c_.Object.Rows c1, Sl a2 c_.Events c2]))]⟩ fun ρ a w125 χ126 hS hE hr => ?_
 replace hO := hO.mv hE rfl rfl
 replace h1 := h1.mv hE rfl
 replace h2 := h2.mv hE rfl
 clear hE hr
 refine regO ?_
 refine oP T hS 1 ⟨[(1, Pt 2 0), (6, V (.agg #[.int .i64 c_.Object.States, .int .i64 c_.Object.Kinds, .int .i64 c_.Object.Init, .slice a1 c_.Object.Rows.length c1, .slice a2 c_.Events.length c2]))], [(2, (33, [I c_.Object.States, I c_.Object.Kinds, I c_.Object.Init, Sl a1 c_.Object.Rows c1, Sl a2 c_.Events c2]))]⟩ fun a hS => ?_
 obtain ⟨hq, hm⟩ := hm
 refine op1 (call hS kr kr hb10 kr (fun _ _ => rfl) (k10 _ _ c_ a1 c1 a2 c2 hq h1 h2) ?_)
 intro v101 a w102 χ103 hE hp hS
 replace hO := hO.mv hE rfl rfl
 replace h1 := h1.mv hE rfl
 replace h2 := h2.mv hE rfl
 obtain ⟨r104, hr⟩ : ∃ r, shrink_Lin c_ = r := ⟨_, rfl⟩
 replace hm := hm r104 hr
 rw [hr] at hp
 clear hr
 subst hp
 refine eP T hS ⟨[(1, Pt 2 0), (3, I r104.2), (4, B r104.1)], [(2, (33, [I c_.Object.States, I c_.Object.Kinds, I c_.Object.Init, Sl a1 c_.Object.Rows c1, Sl a2 c_.Events c2]))]⟩ fun a hS => ?_
 refine wseq ?_
 refine wblock ?_
 refine rP T hS ⟨[(1, Pt 2 0), (3, I r104.2), (4, B r104.1), (10, B (r104.2 != 0))], [(2, (33, [I c_.Object.States, I c_.Object.Kinds, I c_.Object.Init, Sl a1 c_.Object.Rows c1, Sl a2 c_.Events c2]))]⟩ fun a hS => ?_
 refine wcond hS (b := (r104.2 != 0)) kr (fun hb => ?_) (fun hb => ?_)
 ·replace hm := hm.1 hb
  refine rP T hS ⟨[(2, I 0), (3, I r104.2)], []⟩ fun a hS => ?_
  refine wret ?_
  exact fin T hS hO (fun c => c) rfl (r := [.int .i64 0, .int .i64 r104.2]) kr (fun χ' hM hC => ⟨(0, r104.2), hm, rfl⟩)
 replace hm := hm.2 hb
 refine rP T hS ⟨[(1, Pt 2 0), (14, B r104.1)], [(2, (33, [I c_.Object.States, I c_.Object.Kinds, I c_.Object.Init, Sl a1 c_.Object.Rows c1, Sl a2 c_.Events c2]))]⟩ fun a hS => ?_
 refine wcond hS (b := r104.1) kr (fun hb => ?_) (fun hb => ?_)
 ·replace hm := hm.1 hb
  refine rP T hS ⟨[(2, I 0), (3, I 41)], []⟩ fun a hS => ?_
  refine wret ?_
  exact fin T hS hO (fun c => c) rfl (r := [.int .i64 0, .int .i64 41]) kr (fun χ' hM hC => ⟨(0, 41), hm, rfl⟩)
 replace hm := hm.2 hb
 refine wskip ?_
 refine drawnSX [2] mixed hS ?_
 intro w105 χ106 hS hE hD hH
 replace hO := hO.mv hE rfl rfl
 replace h1 := h1.mv hE rfl
 replace h2 := h2.mv hE rfl
 refine tk T [0, 3, 1, 2] [2] hS hH #[true, true, true, true, false, false, false, false] 4 ⟨[(18, I (lN c_.Events)), (19, V (.agg #[.int .i64 c_.Object.States, .int .i64 c_.Object.Kinds, .int .i64 c_.Object.Init, .slice a1 c_.Object.Rows.length c1, .slice a2 c_.Events.length c2]))], [(2, (33, [I c_.Object.States, I c_.Object.Kinds, I c_.Object.Init, Sl a1 c_.Object.Rows c1, Sl a2 c_.Events c2]))]⟩ fun a hS => ?_
 refine only 4 kr (by rfl) (call hS kr kr hb31 kr (fun _ _ => rfl) (k31 _ _ c_ a1 c1 a2 c2 701 h1 h2) ?_)
 intro v107 a w108 χ109 hE hp hS
 replace hO := hO.mv hE rfl rfl
 replace hD := hD.ev hE rfl
 replace h1 := h1.mv hE rfl
 replace h2 := h2.mv hE rfl
 obtain ⟨a111, c112, a114, c115, b117, hp, h113, h116, hc118⟩ := hp
 obtain ⟨r110, hr⟩ : ∃ r, shrink_asker c_ = r := ⟨_, rfl⟩
 replace hm := hm r110 hr
 rw [hr] at h113 h116 hc118
 clear hr
 subst hp
 replace hm := hm (h113.sm kr)
 replace hm := hm (h116.sm kr)
 replace hS := hS.newbox (id := 701) (t := 33) (cs := [I r110.Object.States, I r110.Object.Kinds, I r110.Object.Init, Sl a111 r110.Object.Rows c112, Sl a114 r110.Events c115]) kr kr hc118 rfl
 replace hS := hS.convS (t := 20) (x := V (.func (.func 48) #[] #[.pointer (some ⟨b117, 0, none⟩)])) (y := .f (.func 48) [] [.p 701 0]) kr rfl
 have hr119 : ∀ id, id ≠ 701 → (upd ρ 701 b117) id = ρ id := fun id h => upd_ne _ h
 generalize (upd ρ 701 b117) = ρ at hS hr119
 clear hc118
 replace hS := hS.sl ⟨[(18, I (lN c_.Events)), (19, V (.agg #[.int .i64 c_.Object.States, .int .i64 c_.Object.Kinds, .int .i64 c_.Object.Init, .slice a1 c_.Object.Rows.length c1, .slice a2 c_.Events.length c2])), (20, .f (.func 48) [] [.p 701 0])], [(2, (33, [I c_.Object.States, I c_.Object.Kinds, I c_.Object.Init, Sl a1 c_.Object.Rows c1, Sl a2 c_.Events c2])), (701, (33, [I r110.Object.States, I r110.Object.Kinds, I r110.Object.Init, Sl a111 r110.Object.Rows c112, Sl a114 r110.Events c115]))]⟩
 refine andH ((Hold.of hS (bks := [2]) kr hD).rho hr119 kr) ?_
 intro hH
 obtain ⟨hq, hm⟩ := hm
 refine only 5 kr (by rfl) (callR hS kr kr hb30 kr (k30_48 _ _ (lN c_.Events) r110 a111 c112 a114 c115 (ρ 701) 701 hq h113 h116 (hS.cell (id := 701) (t := 33) (cs := [I r110.Object.States, I r110.Object.Kinds, I r110.Object.Init, Sl a111 r110.Object.Rows c112, Sl a114 r110.Events c115]) kr) ⟨by decide, by decide⟩) ?_)
 intro v120 a w121 χ122 hE hp hS
 replace hO := hO.mv hE rfl rfl
 replace hD := hD.ev hE rfl
 replace h1 := h1.mv hE rfl
 replace h2 := h2.mv hE rfl
 replace h113 := h113.mv hE rfl
 replace h116 := h116.mv hE rfl
 obtain ⟨hp, hc124⟩ := hp
 obtain ⟨r123, hr⟩ : ∃ r, sort_Search_shrink_asker_1 (lN c_.Events) r110 = r := ⟨_, rfl⟩
 replace hm := hm r123 hr
 rw [hr] at hp
 clear hr
 subst hp
 replace hS := hS.addbox (id := 701) (t := 33) (cs := [I r110.Object.States, I r110.Object.Kinds, I r110.Object.Init, Sl a111 r110.Object.Rows c112, Sl a114 r110.Events c115]) kr hc124
 clear hc124
 replace hS := hS.sl ⟨[(18, I (lN c_.Events)), (19, V (.agg #[.int .i64 c_.Object.States, .int .i64 c_.Object.Kinds, .int .i64 c_.Object.Init, .slice a1 c_.Object.Rows.length c1, .slice a2 c_.Events.length c2])), (20, .f (.func 48) [] [.p 701 0]), (21, I r123)], [(2, (33, [I c_.Object.States, I c_.Object.Kinds, I c_.Object.Init, Sl a1 c_.Object.Rows c1, Sl a2 c_.Events c2])), (701, (33, [I r110.Object.States, I r110.Object.Kinds, I r110.Object.Init, Sl a111 r110.Object.Rows c112, Sl a114 r110.Events c115]))]⟩
 refine andH ((Hold.of hS (bks := [2]) kr hD).rho hr119 kr) ?_
 intro hH
 refine takeZ T hr119 kr [6, 7] [2] [2, 3] hS kr kr kr hH (listed' := #[true, true, true, true, true, true, true, true]) (fuel := 0) (sy' := ⟨[(2, I r123), (3, I 0)], [(2, (33, [I c_.Object.States, I c_.Object.Kinds, I c_.Object.Init, Sl a1 c_.Object.Rows c1, Sl a2 c_.Events c2])), (701, (33, [I r110.Object.States, I r110.Object.Kinds, I r110.Object.Init, Sl a111 r110.Object.Rows c112, Sl a114 r110.Events c115]))]⟩) kr (by rfl) ?_
 intro a hS
 refine drawnDone kr ?_
 clear hD hH
 replace hS := hS.sl ⟨[(2, I r123), (3, I 0)], []⟩
 refine wret ?_
 exact fin T hS hO (fun c => c) rfl (r := [.int .i64 r123, .int .i64 0]) kr (fun χ' hM hC => ⟨(r123, 0), hm, rfl⟩)
theorem C12 (k10 : S10) (k30_48 : S30_48) (k31 : S31) (v : ∀ (c_ : Histtext_Case), preCa c_ → VC12 c_ (fun r => r = shrink_Head c_)) : S12 := by
 intro w χ c_ a1 c1 a2 c2   hp h1 h2
 refine (W12 k10 k30_48 k31 w χ c_ a1 c1 a2 c2   _ (v c_ hp) h1 h2).mono ?_
 rintro _ _ _ _ ⟨r, rfl, h⟩
 exact h
theorem W49 (w0 : World) (χ0 : Nat → Nat) (s_ : List Int) (v_ : Int) (a1 : Option Addr) (c1 : Nat) (Q : Int → Prop) (hm : VC49 s_ v_ Q) (h1 : RS tI w0 χ0 a1 s_ c1) :
  Ret Try.prog 49 #[.slice a1 s_.length c1, .int .i64 v_] xnone w0 χ0 (fun w χ' v => ∃ r, Q r ∧ v = .int .i64 r) := by
 unfold VC49 at hm
 replace hm := hm (h1.sm kr)
 refine enter Try.func49 rfl (vals := [.slice a1 s_.length c1, .int .i64 v_]) kr ?_
 intro ρ a hS hO hM
 replace h1 := h1.m0 hM
 clear hM
 refine rP T hS ⟨[(0, Sl a1 s_ c1), (1, I v_)], []⟩ fun a hS => ?_
 refine wcut (fun a w => ∃ (ρ : Nat → Nat) (χ : Nat → Nat), VC49_J1 Q ∧ St Try.f49.ntmps ⟨[], []⟩ ρ a w χ ∧ Old w0 χ0 w χ) ?_ ?_
 ·refine rP T hS ⟨[(0, Sl a1 s_ c1), (1, I v_), (7, I (lN s_)), (8, I 0)], []⟩ fun a hS => ?_
  refine wblock ?_
  obtain ⟨I1, μ1, hm0, hm⟩ := hm
  refine wloop (σ := Int) (fun s a w => ∃ (ρ : Nat → Nat) (χ : Nat → Nat), I1 s ∧ St Try.f49.ntmps ⟨[(0, Sl a1 s_ c1), (1, I v_), (7, I (lN s_)), (8, I s)], []⟩ ρ a w χ ∧ Old w0 χ0 w χ ∧ RS tI w χ a1 s_ c1) (fun s => μ1 s) (0) ?_ ?_
  ·exact ⟨ρ, _, hm0, hS.sl _, hO, h1⟩
  rintro x_102 a w107 ⟨ρ, χ106, hI, hS, hO, h101⟩
  replace hm := hm x_102 hI
  clear hI hm0
  refine rP T hS ⟨[(0, Sl a1 s_ c1), (1, I v_), (7, I (lN s_)), (8, I x_102), (9, B (decide (x_102 < (lN s_))))], []⟩ fun a hS => ?_
  refine wseq ?_
  refine wcond hS (b := decide (x_102 < (lN s_))) kr (fun hb => ?_) (fun hb => ?_)
  ·replace hm := hm.1 hb
   refine wskip (wseq ?_)
   refine wblock ?_
   refine rP T hS ⟨[(0, Sl a1 s_ c1), (1, I v_), (5, I x_102), (7, I (lN s_)), (8, I x_102)], []⟩ fun a hS => ?_
   refine regO ?_
   refine oP T hS 3 ⟨[(0, Sl a1 s_ c1), (1, I v_), (5, I x_102), (7, I (lN s_)), (8, I x_102), (11, I v_), (12, Sl a1 s_ c1), (13, I x_102)], []⟩ fun a hS => ?_
   obtain ⟨hq, hm⟩ := hm
   refine op1 (index (e := 3) (k := .i64) T hS kr kr kr kr h101 kr kr hq.1 hq.2 ?_)
   intro A103 a h104 hS
   refine op1 (load1 T hS kr kr kr h104 rfl kr ?_)
   intro v105 a hv hS
   cases hv
   refine eP T hS ⟨[(0, Sl a1 s_ c1), (1, I v_), (5, I x_102), (7, I (lN s_)), (8, I x_102), (16, B (v_ == (gi s_ x_102)))], []⟩ fun a hS => ?_
   refine wcond hS (b := (v_ == (gi s_ x_102))) kr (fun hb => ?_) (fun hb => ?_)
   ·replace hm := hm.1 hb
    refine rP T hS ⟨[(4, I x_102)], []⟩ fun a hS => ?_
    refine wret ?_
    exact fin T hS hO (fun c => c) rfl (r := [.int .i64 x_102]) kr (fun χ' hM hC => ⟨x_102, hm, rfl⟩)
   replace hm := hm.2 hb
   refine wskip ?_
   refine region (eP T hS ⟨[(0, Sl a1 s_ c1), (1, I v_), (7, I (lN s_)), (8, I (wR (x_102 + 1)))], []⟩ fun a hS => ?_)
   exact ⟨wR (x_102 + 1), ⟨ρ, _, hm.1, hS.sl _, hO, h101⟩, hm.2⟩
  replace hm := hm.2 hb
  refine wexit (by rfl) ?_
  exact ⟨ρ, _, hm, hS.sl _, hO⟩
 rintro a w109 ⟨ρ, χ108, hm, hS, hO⟩
 unfold VC49_J1 at hm
 refine rP T hS ⟨[(4, I (-1))], []⟩ fun a hS => ?_
 refine wret ?_
 exact fin T hS hO (fun c => c) rfl (r := [.int .i64 (-1)]) kr (fun χ' hM hC => ⟨(-1), hm, rfl⟩)
theorem C49 (v : ∀ (s_ : List Int) (v_ : Int), VC49 s_ v_ (fun r => r = slices_Index_int_int s_ v_)) : S49 := by
 intro w χ s_ v_ a1 c1   h1
 refine (W49 w χ s_ v_ a1 c1   _ (v s_ v_) h1).mono ?_
 rintro _ _ _ _ ⟨r, rfl, h⟩
 exact h
theorem W35 (k49 : S49) (w0 : World) (χ0 : Nat → Nat) (s_ : List Int) (v_ : Int) (a1 : Option Addr) (c1 : Nat) (Q : Bool → Prop) (hm : VC35 s_ v_ Q) (h1 : RS tI w0 χ0 a1 s_ c1) :
  Ret Try.prog 35 #[.slice a1 s_.length c1, .int .i64 v_] xnone w0 χ0 (fun w χ' v => ∃ r, Q r ∧ v = .bool r) := by
 unfold VC35 at hm
 replace hm := hm (h1.sm kr)
 refine enter Try.func35 rfl (vals := [.slice a1 s_.length c1, .int .i64 v_]) kr ?_
 intro ρ a hS hO hM
 replace h1 := h1.m0 hM
 clear hM
 refine rP T hS ⟨[(0, Sl a1 s_ c1), (1, I v_)], []⟩ fun a hS => ?_
 refine regO ?_
 refine oP T hS 2 ⟨[(5, Sl a1 s_ c1), (6, I v_)], []⟩ fun a hS => ?_
 refine op1 (call hS kr kr hb49 kr (fun _ _ => rfl) (k49 _ _ s_ v_ a1 c1 h1) ?_)
 intro v101 a w102 χ103 hE hp hS
 replace hO := hO.mv hE rfl rfl
 replace h1 := h1.mv hE rfl
 obtain ⟨r104, hr⟩ : ∃ r, slices_Index_int_int s_ v_ = r := ⟨_, rfl⟩
 replace hm := hm r104 hr
 rw [hr] at hp
 clear hr
 subst hp
 refine eP T hS ⟨[(4, B (decide (r104 ≥ 0)))], []⟩ fun a hS => ?_
 refine wret ?_
 exact fin T hS hO (fun c => c) rfl (r := [.bool (decide (r104 ≥ 0))]) kr (fun χ' hM hC => ⟨(decide (r104 ≥ 0)), hm, rfl⟩)
theorem C35 (k49 : S49) (v : ∀ (s_ : List Int) (v_ : Int), VC35 s_ v_ (fun r => r = slices_Contains_int_int s_ v_)) : S35 := by
 intro w χ s_ v_ a1 c1   h1
 refine (W35 k49 w χ s_ v_ a1 c1   _ (v s_ v_) h1).mono ?_
 rintro _ _ _ _ ⟨r, rfl, h⟩
 exact h
theorem W18 (k35 : S35) (w0 : World) (χ0 : Nat → Nat) (l_ : List Api_Event) (ops : List Int) (a1 : Option Addr) (c1 : Nat) (a2 : Option Addr) (c2 : Nat) (Q : (List Api_Event) → Prop) (hm : VC18 l_ ops Q) (h1 : RS tApi_Event w0 χ0 a1 l_ c1) (h2 : RS tI w0 χ0 a2 ops c2) :
  Ret Try.prog 18 #[.slice a1 l_.length c1, .slice a2 ops.length c2] xnone w0 χ0 (fun w χ' v => ∃ r, Q r ∧ ∃ (ra1 : Option Addr) (rc1 : Nat), v = .slice ra1 r.length rc1 ∧ RS tApi_Event w χ' ra1 r rc1) := by
 unfold VC18 at hm
 replace hm := hm (h1.sm kr)
 replace hm := hm (h2.sm kr)
 refine enter Try.func18 rfl (vals := [.slice a1 l_.length c1, .slice a2 ops.length c2]) kr ?_
 intro ρ a hS hO hM
 replace h1 := h1.m0 hM
 replace h2 := h2.m0 hM
 clear hM
 refine rP T hS ⟨[(0, Sl a1 l_ c1), (1, Sl a2 ops c2)], []⟩ fun a hS => ?_
 refine rP T hS ⟨[(0, Sl a1 l_ c1), (1, Sl a2 ops c2), (5, V (.slice none 0 0))], []⟩ fun a hS => ?_
 refine rP T hS ⟨[(0, Sl a1 l_ c1), (1, Sl a2 ops c2), (5, V (.slice none 0 0)), (6, I 0)], []⟩ fun a hS => ?_
 refine regO ?_
 refine op1 (mkmap kI tI false 1011 hS kr kr ?_)
 intro r101 a w102 χ103 hE h104 hS
 replace hO := hO.mv hE rfl rfl
 replace h1 := h1.mv hE rfl
 replace h2 := h2.mv hE rfl
 refine eP T hS ⟨[(0, Sl a1 l_ c1), (1, Sl a2 ops c2), (5, V (.slice none 0 0)), (6, I 0), (7, V (.map (some r101)))], []⟩ fun a hS => ?_
 refine wcut (fun a w => ∃ (ρ : Nat → Nat) (χ : Nat → Nat) (out_105 : List Api_Event) (a106 : Option Addr) (c107 : Nat), VC18_J1 Q out_105 ∧ St Try.f18.ntmps ⟨[(5, Sl a106 out_105 c107)], []⟩ ρ a w χ ∧ Old w0 χ0 w χ ∧ OS tApi_Event 54 w χ 1005 a106 out_105 c107) ?_ ?_
 ·refine rP T hS ⟨[(1, Sl a2 ops c2), (5, V (.slice none 0 0)), (6, I 0), (7, V (.map (some r101))), (11, Sl a1 l_ c1), (12, I (lN l_)), (13, I 0)], []⟩ fun a hS => ?_
  refine wblock ?_
  obtain ⟨I1, μ1, hm0, hm⟩ := hm
  refine wloop (σ := (List Api_Event) × Int × (List (Int × Int)) × Int) (fun s a w => ∃ (ρ : Nat → Nat) (χ : Nat → Nat) (a113 : Option Addr) (c114 : Nat), I1 s.1 s.2.1 s.2.2.1 s.2.2.2 ∧ St Try.f18.ntmps ⟨[(1, Sl a2 ops c2), (5, Sl a113 s.1 c114), (6, I s.2.1), (7, V (.map (some r101))), (11, Sl a1 l_ c1), (12, I (lN l_)), (13, I s.2.2.2)], []⟩ ρ a w χ ∧ Old w0 χ0 w χ ∧ RS tI w χ a2 ops c2 ∧ OS tApi_Event 54 w χ 1005 a113 s.1 c114 ∧ OM kI tI false w χ 1011 r101 s.2.2.1 ∧ RS tApi_Event w χ a1 l_ c1) (fun s => μ1 s.1 s.2.1 s.2.2.1 s.2.2.2) (⟨[], 0, ([] : List (Int × Int)), 0⟩) ?_ ?_
  ·exact ⟨ρ, _, none, 0, hm0, hS.sl _, hO, h2, (OS.nil _ _ _ _ _), h104, h1⟩
  rintro ⟨out_112, n_116, gone_117, x_120⟩ a w186 ⟨ρ, χ185, a113, c114, hI, hS, hO, h111, h115, h118, h119⟩
  replace hm := hm out_112 n_116 gone_117 x_120 hI
  clear hI hm0
  refine rP T hS ⟨[(1, Sl a2 ops c2), (5, Sl a113 out_112 c114), (6, I n_116), (7, V (.map (some r101))), (11, Sl a1 l_ c1), (12, I (lN l_)), (13, I x_120), (14, B (decide (x_120 < (lN l_))))], []⟩ fun a hS => ?_
  refine wseq ?_
  refine wcond hS (b := decide (x_120 < (lN l_))) kr (fun hb => ?_) (fun hb => ?_)
  ·replace hm := hm.1 hb
   refine wskip ?_
   refine wcut (fun a w => ∃ (ρ : Nat → Nat) (χ : Nat → Nat) (out_122 : List Api_Event) (n_126 : Int) (gone_127 : List (Int × Int)) (a123 : Option Addr) (c124 : Nat), VC18_J2 I1 μ1 out_112 n_116 gone_117 x_120 out_122 n_126 gone_127 ∧ St Try.f18.ntmps ⟨[(1, Sl a2 ops c2), (5, Sl a123 out_122 c124), (6, I n_126), (7, V (.map (some r101))), (11, Sl a1 l_ c1), (12, I (lN l_)), (13, I x_120)], []⟩ ρ a w χ ∧ Old w0 χ0 w χ ∧ RS tI w χ a2 ops c2 ∧ OS tApi_Event 54 w χ 1005 a123 out_122 c124 ∧ OM kI tI false w χ 1011 r101 gone_127 ∧ RS tApi_Event w χ a1 l_ c1) ?_ ?_
   ·refine wblock ?_
    refine regO ?_
    obtain ⟨hq, hm⟩ := hm
    refine op1 (index (e := 54) (k := .i64) T hS kr kr kr kr h119 kr kr hq.1 hq.2 ?_)
    intro A130 a h131 hS
    refine op1 (loadA T hS kr kr kr h131 kr kr ?_)
    intro v132 a hv hS
    subst hv
    refine eM T hS ⟨[(1, Sl a2 ops c2), (5, Sl a113 out_112 c114), (6, I n_116), (7, V (.map (some r101))), (9, Pt 10 0), (11, Sl a1 l_ c1), (12, I (lN l_)), (13, I x_120)], [(10, (54, [I ((gi l_ x_120).What), I ((gi l_ x_120).Prc), I ((gi l_ x_120).N)]))]⟩ fun ρ a w181 χ182 hS hE hr => ?_
    replace hO := hO.mv hE rfl rfl
    replace h111 := h111.mv hE rfl
    replace h115 := h115.mv hE rfl rfl
    replace h118 := h118.mv hE rfl rfl
    replace h119 := h119.mv hE rfl
    clear hE hr
    refine wseq (rP T hS ⟨[(1, Sl a2 ops c2), (5, Sl a113 out_112 c114), (6, I n_116), (7, V (.map (some r101))), (9, Pt 10 0), (11, Sl a1 l_ c1), (12, I (lN l_)), (13, I x_120), (19, B (((gi l_ x_120).What) == 1))], [(10, (54, [I ((gi l_ x_120).What), I ((gi l_ x_120).Prc), I ((gi l_ x_120).N)]))]⟩ fun a hS => ?_)
    refine wcond hS (b := (((gi l_ x_120).What) == 1)) kr (fun hb => ?_) (fun hb => ?_)
    ·replace hm := hm.1 hb
     refine regO ?_
     refine oP T hS 3 ⟨[(1, Sl a2 ops c2), (5, Sl a113 out_112 c114), (6, I n_116), (7, V (.map (some r101))), (9, Pt 10 0), (11, Sl a1 l_ c1), (12, I (lN l_)), (13, I x_120), (20, V (.map (some r101))), (22, I ((gi l_ x_120).Prc))], [(10, (54, [I ((gi l_ x_120).What), I ((gi l_ x_120).Prc), I ((gi l_ x_120).N)]))]⟩ fun a hS => ?_
     refine op1 (mset kI tI false (v := I 0) (u := 0) ((gi l_ x_120).Prc) hS kr kr kr kr Try.underlying59 Try.underlying3 kr h118 rfl ?_)
     intro a w133 hE h134 hS
     clear h118
     replace hO := hO.mv hE rfl rfl
     replace h111 := h111.mv hE rfl
     replace h115 := h115.mv hE rfl rfl
     replace h119 := h119.mv hE rfl
     refine doneK ?_
     refine wcut (fun a w => ∃ (ρ : Nat → Nat) (χ : Nat → Nat) (out_136 : List Api_Event) (gone_140 : List (Int × Int)) (a137 : Option Addr) (c138 : Nat), VC18_J3 I1 μ1 out_112 n_116 gone_117 x_120 out_136 gone_140 ∧ St Try.f18.ntmps ⟨[(1, Sl a2 ops c2), (5, Sl a137 out_136 c138), (6, I n_116), (7, V (.map (some r101))), (11, Sl a1 l_ c1), (12, I (lN l_)), (13, I x_120)], []⟩ ρ a w χ ∧ Old w0 χ0 w χ ∧ RS tI w χ a2 ops c2 ∧ OS tApi_Event 54 w χ 1005 a137 out_136 c138 ∧ OM kI tI false w χ 1011 r101 gone_140 ∧ RS tApi_Event w χ a1 l_ c1) ?_ ?_
     ·refine regO ?_
      refine oP T hS 2 ⟨[(1, Sl a2 ops c2), (5, Sl a113 out_112 c114), (6, I n_116), (7, V (.map (some r101))), (9, Pt 10 0), (11, Sl a1 l_ c1), (12, I (lN l_)), (13, I x_120), (23, Sl a2 ops c2), (24, I n_116)], [(10, (54, [I ((gi l_ x_120).What), I ((gi l_ x_120).Prc), I ((gi l_ x_120).N)]))]⟩ fun a hS => ?_
      refine op1 (call hS kr kr hb35 kr (fun _ _ => rfl) (k35 _ _ ops n_116 a2 c2 h111) ?_)
      intro v143 a w144 χ145 hE hp hS
      replace hO := hO.mv hE rfl rfl
      replace h111 := h111.mv hE rfl
      replace h115 := h115.mv hE rfl rfl
      replace h119 := h119.mv hE rfl
      replace h134 := h134.mv hE rfl rfl
      obtain ⟨r146, hr⟩ : ∃ r, slices_Contains_int_int ops n_116 = r := ⟨_, rfl⟩
      replace hm := hm r146 hr
      rw [hr] at hp
      clear hr
      subst hp
      refine doneK ?_
      refine wcond hS (b := r146) kr (fun hb => ?_) (fun hb => ?_)
      ·replace hm := hm.1 hb
       refine region ?_
       refine oP T hS 3 ⟨[(1, Sl a2 ops c2), (5, Sl a113 out_112 c114), (6, I n_116), (7, V (.map (some r101))), (11, Sl a1 l_ c1), (12, I (lN l_)), (13, I x_120), (26, V (.map (some r101))), (28, I ((gi l_ x_120).Prc))], []⟩ fun a hS => ?_
       refine op1 (mset kI tI false (v := I 1) (u := 1) ((gi l_ x_120).Prc) hS kr kr kr kr Try.underlying59 Try.underlying3 kr h134 rfl ?_)
       intro a w147 hE h148 hS
       clear h134
       replace hO := hO.mv hE rfl rfl
       replace h111 := h111.mv hE rfl
       replace h115 := h115.mv hE rfl rfl
       replace h119 := h119.mv hE rfl
       refine doneK ?_
       exact ⟨ρ, _, out_112, mput (mput gone_117 ((gi l_ x_120).Prc) 0) ((gi l_ x_120).Prc) 1, a113, c114, hm, hS.sl _, hO, h111, h115, h148, h119⟩
      replace hm := hm.2 hb
      refine region ?_
      refine oP T hS 2 ⟨[(1, Sl a2 ops c2), (5, Sl a113 out_112 c114), (6, I n_116), (7, V (.map (some r101))), (11, Sl a1 l_ c1), (12, I (lN l_)), (13, I x_120), (29, Sl a113 out_112 c114), (30, V (.agg #[.int .i64 ((gi l_ x_120).What), .int .i64 ((gi l_ x_120).Prc), .int .i64 ((gi l_ x_120).N)]))], []⟩ fun a hS => ?_
      refine op1 (lit (E := 54) (col := 0) (T := tApi_Event) (vals := [.agg #[.int .i64 ((gi l_ x_120).What), .int .i64 ((gi l_ x_120).Prc), .int .i64 ((gi l_ x_120).N)]]) (ys := [(gi l_ x_120)]) T hS kr kr kr kr (by exact ⟨rfl, trivial⟩) rfl kr kr kr kr ?_)
      intro b149 a w150 χ151 hE h152 hN hS
      clear hN
      replace hO := hO.mv hE rfl rfl
      replace h111 := h111.mv hE rfl
      replace h115 := h115.mv hE rfl rfl
      replace h119 := h119.mv hE rfl
      replace h134 := h134.mv hE rfl rfl
      replace h152 := h152.rs0
      obtain ⟨hq, hm⟩ := hm
      obtain ⟨news, hN⟩ := h152.src
      refine op1 (append (E := 54) (T := tApi_Event) (col := 1005) (xs := out_112) T hS kr kr kr kr h115 hN kr kr kr kr hq ?_)
      intro a156 c157 a w153 χ154 hE h155 hS
      clear hq hN
      clear h115
      replace hO := hO.mv hE rfl rfl
      replace h111 := h111.mv hE rfl
      replace h119 := h119.mv hE rfl
      replace h134 := h134.mv hE rfl rfl
      replace h152 := h152.mv hE rfl
      refine eP T hS ⟨[(1, Sl a2 ops c2), (5, Sl a156 (out_112 ++ [(gi l_ x_120)]) c157), (6, I n_116), (7, V (.map (some r101))), (11, Sl a1 l_ c1), (12, I (lN l_)), (13, I x_120)], []⟩ fun a hS => ?_
      exact ⟨ρ, _, out_112 ++ [(gi l_ x_120)], mput gone_117 ((gi l_ x_120).Prc) 0, a156, c157, hm, hS.sl _, hO, h111, h155, h134, h119⟩
     rintro a w159 ⟨ρ, χ158, out_136, gone_140, a137, c138, hm, hS, hO, h135, h139, h141, h142⟩
     unfold VC18_J3 at hm
     refine rP T hS ⟨[(1, Sl a2 ops c2), (5, Sl a137 out_136 c138), (6, I (wR (n_116 + 1))), (7, V (.map (some r101))), (11, Sl a1 l_ c1), (12, I (lN l_)), (13, I x_120)], []⟩ fun a hS => ?_
     refine wexit (by rfl) ?_
     exact ⟨ρ, _, out_136, wR (n_116 + 1), gone_140, a137, c138, hm, hS.sl _, hO, h135, h139, h141, h142⟩
    replace hm := hm.2 hb
    refine wskip ?_
    refine wcut (fun a w => ∃ (ρ : Nat → Nat) (χ : Nat → Nat) (out_161 : List Api_Event) (a162 : Option Addr) (c163 : Nat), VC18_J4 l_ I1 μ1 out_112 n_116 gone_117 x_120 out_161 ∧ St Try.f18.ntmps ⟨[(1, Sl a2 ops c2), (5, Sl a162 out_161 c163), (6, I n_116), (7, V (.map (some r101))), (9, Pt 10 0), (11, Sl a1 l_ c1), (12, I (lN l_)), (13, I x_120)], [(10, (54, [I ((gi l_ x_120).What), I ((gi l_ x_120).Prc), I ((gi l_ x_120).N)]))]⟩ ρ a w χ ∧ Old w0 χ0 w χ ∧ RS tI w χ a2 ops c2 ∧ OS tApi_Event 54 w χ 1005 a162 out_161 c163 ∧ OM kI tI false w χ 1011 r101 gone_117 ∧ RS tApi_Event w χ a1 l_ c1) ?_ ?_
    ·refine regO ?_
     refine oP T hS 3 ⟨[(1, Sl a2 ops c2), (5, Sl a113 out_112 c114), (6, I n_116), (7, V (.map (some r101))), (9, Pt 10 0), (11, Sl a1 l_ c1), (12, I (lN l_)), (13, I x_120), (35, V (.map (some r101))), (37, I ((gi l_ x_120).Prc))], [(10, (54, [I ((gi l_ x_120).What), I ((gi l_ x_120).Prc), I ((gi l_ x_120).N)]))]⟩ fun a hS => ?_
     refine op1 (mlook kI tI false (zv := .int .i64 0) (z := 0) ((gi l_ x_120).Prc) hS kr kr kr kr Try.underlying59 Try.underlying3 kr rfl h118 ?_)
     intro v169 a hv hS
     replace hv : tI.R _ _ [v169] _ := hv
     cases hv
     refine eP T hS ⟨[(1, Sl a2 ops c2), (5, Sl a113 out_112 c114), (6, I n_116), (7, V (.map (some r101))), (9, Pt 10 0), (11, Sl a1 l_ c1), (12, I (lN l_)), (13, I x_120), (44, B ((((mget gone_117 ((gi l_ x_120).Prc)).getD 0) == 0) || (((gi l_ x_120).What) != 2)))], [(10, (54, [I ((gi l_ x_120).What), I ((gi l_ x_120).Prc), I ((gi l_ x_120).N)]))]⟩ (sp := [40]) fun a hS => ?_
     refine wcond hS (b := ((((mget gone_117 ((gi l_ x_120).Prc)).getD 0) == 0) || (((gi l_ x_120).What) != 2))) kr (fun hb => ?_) (fun hb => ?_)
     ·replace hm := hm.1 hb
      refine region ?_
      refine oP T hS 2 ⟨[(1, Sl a2 ops c2), (5, Sl a113 out_112 c114), (6, I n_116), (7, V (.map (some r101))), (9, Pt 10 0), (11, Sl a1 l_ c1), (12, I (lN l_)), (13, I x_120), (45, Sl a113 out_112 c114), (46, V (.agg #[.int .i64 ((gi l_ x_120).What), .int .i64 ((gi l_ x_120).Prc), .int .i64 ((gi l_ x_120).N)]))], [(10, (54, [I ((gi l_ x_120).What), I ((gi l_ x_120).Prc), I ((gi l_ x_120).N)]))]⟩ fun a hS => ?_
      refine op1 (lit (E := 54) (col := 0) (T := tApi_Event) (vals := [.agg #[.int .i64 ((gi l_ x_120).What), .int .i64 ((gi l_ x_120).Prc), .int .i64 ((gi l_ x_120).N)]]) (ys := [(gi l_ x_120)]) T hS kr kr kr kr (by exact ⟨rfl, trivial⟩) rfl kr kr kr kr ?_)
      intro b170 a w171 χ172 hE h173 hN hS
      clear hN
      replace hO := hO.mv hE rfl rfl
      replace h111 := h111.mv hE rfl
      replace h115 := h115.mv hE rfl rfl
      replace h118 := h118.mv hE rfl rfl
      replace h119 := h119.mv hE rfl
      replace h173 := h173.rs0
      obtain ⟨hq, hm⟩ := hm
      obtain ⟨news, hN⟩ := h173.src
      refine op1 (append (E := 54) (T := tApi_Event) (col := 1005) (xs := out_112) T hS kr kr kr kr h115 hN kr kr kr kr hq ?_)
      intro a177 c178 a w174 χ175 hE h176 hS
      clear hq hN
      clear h115
      replace hO := hO.mv hE rfl rfl
      replace h111 := h111.mv hE rfl
      replace h118 := h118.mv hE rfl rfl
      replace h119 := h119.mv hE rfl
      replace h173 := h173.mv hE rfl
      refine eP T hS ⟨[(1, Sl a2 ops c2), (5, Sl a177 (out_112 ++ [(gi l_ x_120)]) c178), (6, I n_116), (7, V (.map (some r101))), (9, Pt 10 0), (11, Sl a1 l_ c1), (12, I (lN l_)), (13, I x_120)], [(10, (54, [I ((gi l_ x_120).What), I ((gi l_ x_120).Prc), I ((gi l_ x_120).N)]))]⟩ fun a hS => ?_
      exact ⟨ρ, _, out_112 ++ [(gi l_ x_120)], a177, c178, hm, hS.sl _, hO, h111, h176, h118, h119⟩
     replace hm := hm.2 hb
     refine wskip ?_
     exact ⟨ρ, _, out_112, a113, c114, hm, hS.sl _, hO, h111, h115, h118, h119⟩
    rintro a w180 ⟨ρ, χ179, out_161, a162, c163, hm, hS, hO, h160, h164, h165, h166⟩
    unfold VC18_J4 at hm
    refine region ?_
    refine oP T hS 3 ⟨[(1, Sl a2 ops c2), (5, Sl a162 out_161 c163), (6, I n_116), (7, V (.map (some r101))), (11, Sl a1 l_ c1), (12, I (lN l_)), (13, I x_120), (49, V (.map (some r101))), (51, I ((gi l_ x_120).Prc))], []⟩ fun a hS => ?_
    refine op1 (mset kI tI false (v := I 0) (u := 0) ((gi l_ x_120).Prc) hS kr kr kr kr Try.underlying59 Try.underlying3 kr h165 rfl ?_)
    intro a w167 hE h168 hS
    clear h165
    replace hO := hO.mv hE rfl rfl
    replace h160 := h160.mv hE rfl
    replace h164 := h164.mv hE rfl rfl
    replace h166 := h166.mv hE rfl
    refine doneK ?_
    exact ⟨ρ, _, out_161, n_116, mput gone_117 ((gi l_ x_120).Prc) 0, a162, c163, hm, hS.sl _, hO, h160, h164, h168, h166⟩
   rintro a w184 ⟨ρ, χ183, out_122, n_126, gone_127, a123, c124, hm, hS, hO, h121, h125, h128, h129⟩
   unfold VC18_J2 at hm
   refine region (eP T hS ⟨[(1, Sl a2 ops c2), (5, Sl a123 out_122 c124), (6, I n_126), (7, V (.map (some r101))), (11, Sl a1 l_ c1), (12, I (lN l_)), (13, I (wR (x_120 + 1)))], []⟩ fun a hS => ?_)
   exact ⟨⟨out_122, n_126, gone_127, wR (x_120 + 1)⟩, ⟨ρ, _, a123, c124, hm.1, hS.sl _, hO, h121, h125, h128, h129⟩, hm.2⟩
  replace hm := hm.2 hb
  refine wexit (by rfl) ?_
  exact ⟨ρ, _, out_112, a113, c114, hm, hS.sl _, hO, h115⟩
 rintro a w188 ⟨ρ, χ187, out_105, a106, c107, hm, hS, hO, h108⟩
 unfold VC18_J1 at hm
 refine rP T hS ⟨[(4, Sl a106 out_105 c107)], []⟩ fun a hS => ?_
 refine wret ?_
 obtain ⟨χ109, hE, hF⟩ := h108.freeze (by decide)
 replace hS := hS.ev hE (xone_box kr)
 replace hO := hO.mv hE rfl rfl
 have h110 := hF; clear hE hF
 exact fin T hS hO (fun c => c) rfl (r := [.slice a106 out_105.length c107]) kr (fun χ' hM hC => ⟨out_105, hm, a106, c107, rfl, h110.m0 hM⟩)
theorem C18 (k35 : S35) (v : ∀ (l_ : List Api_Event) (ops : List Int), preWo l_ ops → VC18 l_ ops (fun r => r = shrink_Without l_ ops)) : S18 := by
 intro w χ l_ ops a1 c1 a2 c2   hp h1 h2
 refine (W18 k35 w χ l_ ops a1 c1 a2 c2   _ (v l_ ops hp) h1 h2).mono ?_
 rintro _ _ _ _ ⟨r, rfl, h⟩
 exact h
theorem W32 (w0 : World) (χ0 : Nat → Nat) (s_ : List Api_Row) (a1 : Option Addr) (c1 : Nat) (Q : (List Api_Row) → Prop) (hm : VC32 s_ Q) (h1 : RS tApi_Row w0 χ0 a1 s_ c1) :
  Ret Try.prog 32 #[.slice a1 s_.length c1] xnone w0 χ0 (fun w χ' v => ∃ r, Q r ∧ ∃ (ra1 : Option Addr) (rc1 : Nat), v = .slice ra1 r.length rc1 ∧ RS tApi_Row w χ' ra1 r rc1) := by
 unfold VC32 at hm
 replace hm := hm (h1.sm kr)
 refine enter Try.func32 rfl (vals := [.slice a1 s_.length c1]) kr ?_
 intro ρ a hS hO hM
 replace h1 := h1.m0 hM
 clear hM
 refine rP T hS ⟨[(0, Sl a1 s_ c1)], []⟩ fun a hS => ?_
 refine wseq ?_
 refine regO ?_
 refine oP T hS 1 ⟨[(0, Sl a1 s_ c1), (3, Sl a1 s_ c1)], []⟩ fun a hS => ?_
 obtain ⟨b101, hb102⟩ : ∃ q : Bool, a1.isNone = q := ⟨_, rfl⟩
 replace hm := hm b101 (h1.nilE hb102)
 refine op1 (eqNil (e := 76) (m := s_.length) (c := c1) hS kr kr kr kr Try.underlying22 hb102 ?_)
 intro a hS
 clear hb102
 refine doneK ?_
 refine wcond hS (b := b101) kr (fun hb => ?_) (fun hb => ?_)
 ·replace hm := hm.1 hb
  refine rP T hS ⟨[(2, V (.slice none 0 0))], []⟩ fun a hS => ?_
  refine wret ?_
  exact fin T hS hO (fun c => c) rfl (r := [.slice none 0 0]) kr (fun χ' hM hC => ⟨[], hm, none, 0, rfl, RS.empty _ _ _⟩)
 replace hm := hm.2 hb
 refine wskip ?_
 refine regO ?_
 refine op1 (lit (E := 76) (col := 1003) (T := tApi_Row) (vals := []) (ys := ([] : List Api_Row)) T hS kr kr kr kr trivial rfl kr kr kr kr ?_)
 intro b103 a w104 χ105 hE h106 hN hS
 clear hN
 replace hO := hO.mv hE rfl rfl
 replace h1 := h1.mv hE rfl
 refine oP T hS 1 ⟨[(5, Sl (some ⟨b103, 0, none⟩) ([] : List Api_Row) 0), (6, Sl a1 s_ c1)], []⟩ fun a hS => ?_
 obtain ⟨hq, hm⟩ := hm
 obtain ⟨news, hN⟩ := h1.src
 refine op1 (append (E := 76) (T := tApi_Row) (col := 1003) (xs := ([] : List Api_Row)) T hS kr kr kr kr h106 hN kr kr kr kr hq ?_)
 intro a110 c111 a w107 χ108 hE h109 hS
 clear hq hN
 clear h106
 replace hO := hO.mv hE rfl rfl
 replace h1 := h1.mv hE rfl
 refine eP T hS ⟨[(2, Sl a110 (([] : List Api_Row) ++ s_) c111)], []⟩ fun a hS => ?_
 refine wret ?_
 obtain ⟨χ112, hE, hF⟩ := h109.freeze (by decide)
 replace hS := hS.ev hE (xone_box kr)
 replace hO := hO.mv hE rfl rfl
 have h113 := hF; clear hE hF
 exact fin T hS hO (fun c => c) rfl (r := [.slice a110 (([] : List Api_Row) ++ s_).length c111]) kr (fun χ' hM hC => ⟨(([] : List Api_Row) ++ s_), hm, a110, c111, rfl, h113.m0 hM⟩)
theorem C32 (v : ∀ (s_ : List Api_Row), preC2 s_ → VC32 s_ (fun r => r = slices_Clone_api_Row_api_Row s_)) : S32 := by
 intro w χ s_ a1 c1   hp h1
 refine (W32 w χ s_ a1 c1   _ (v s_ hp) h1).mono ?_
 rintro _ _ _ _ ⟨r, rfl, h⟩
 exact h
theorem W33 (w0 : World) (χ0 : Nat → Nat) (s_ : List Api_Event) (a1 : Option Addr) (c1 : Nat) (Q : (List Api_Event) → Prop) (hm : VC33 s_ Q) (h1 : RS tApi_Event w0 χ0 a1 s_ c1) :
  Ret Try.prog 33 #[.slice a1 s_.length c1] xnone w0 χ0 (fun w χ' v => ∃ r, Q r ∧ ∃ (ra1 : Option Addr) (rc1 : Nat), v = .slice ra1 r.length rc1 ∧ RS tApi_Event w χ' ra1 r rc1) := by
 unfold VC33 at hm
 replace hm := hm (h1.sm kr)
 refine enter Try.func33 rfl (vals := [.slice a1 s_.length c1]) kr ?_
 intro ρ a hS hO hM
 replace h1 := h1.m0 hM
 clear hM
 refine rP T hS ⟨[(0, Sl a1 s_ c1)], []⟩ fun a hS => ?_
 refine wseq ?_
 refine regO ?_
 refine oP T hS 1 ⟨[(0, Sl a1 s_ c1), (3, Sl a1 s_ c1)], []⟩ fun a hS => ?_
 obtain ⟨b101, hb102⟩ : ∃ q : Bool, a1.isNone = q := ⟨_, rfl⟩
 replace hm := hm b101 (h1.nilE hb102)
 refine op1 (eqNil (e := 54) (m := s_.length) (c := c1) hS kr kr kr kr Try.underlying25 hb102 ?_)
 intro a hS
 clear hb102
 refine doneK ?_
 refine wcond hS (b := b101) kr (fun hb => ?_) (fun hb => ?_)
 ·replace hm := hm.1 hb
  refine rP T hS ⟨[(2, V (.slice none 0 0))], []⟩ fun a hS => ?_
  refine wret ?_
  exact fin T hS hO (fun c => c) rfl (r := [.slice none 0 0]) kr (fun χ' hM hC => ⟨[], hm, none, 0, rfl, RS.empty _ _ _⟩)
 replace hm := hm.2 hb
 refine wskip ?_
 refine regO ?_
 refine op1 (lit (E := 54) (col := 1003) (T := tApi_Event) (vals := []) (ys := ([] : List Api_Event)) T hS kr kr kr kr trivial rfl kr kr kr kr ?_)
 intro b103 a w104 χ105 hE h106 hN hS
 clear hN
 replace hO := hO.mv hE rfl rfl
 replace h1 := h1.mv hE rfl
 refine oP T hS 1 ⟨[(5, Sl (some ⟨b103, 0, none⟩) ([] : List Api_Event) 0), (6, Sl a1 s_ c1)], []⟩ fun a hS => ?_
 obtain ⟨hq, hm⟩ := hm
 obtain ⟨news, hN⟩ := h1.src
 refine op1 (append (E := 54) (T := tApi_Event) (col := 1003) (xs := ([] : List Api_Event)) T hS kr kr kr kr h106 hN kr kr kr kr hq ?_)
 intro a110 c111 a w107 χ108 hE h109 hS
 clear hq hN
 clear h106
 replace hO := hO.mv hE rfl rfl
 replace h1 := h1.mv hE rfl
 refine eP T hS ⟨[(2, Sl a110 (([] : List Api_Event) ++ s_) c111)], []⟩ fun a hS => ?_
 refine wret ?_
 obtain ⟨χ112, hE, hF⟩ := h109.freeze (by decide)
 replace hS := hS.ev hE (xone_box kr)
 replace hO := hO.mv hE rfl rfl
 have h113 := hF; clear hE hF
 exact fin T hS hO (fun c => c) rfl (r := [.slice a110 (([] : List Api_Event) ++ s_).length c111]) kr (fun χ' hM hC => ⟨(([] : List Api_Event) ++ s_), hm, a110, c111, rfl, h113.m0 hM⟩)
theorem C33 (v : ∀ (s_ : List Api_Event), preC3 s_ → VC33 s_ (fun r => r = slices_Clone_api_Event_api_Event s_)) : S33 := by
 intro w χ s_ a1 c1   hp h1
 refine (W33 w χ s_ a1 c1   _ (v s_ hp) h1).mono ?_
 rintro _ _ _ _ ⟨r, rfl, h⟩
 exact h
theorem W14 (k12 : S12) (k18 : S18) (k32 : S32) (k33 : S33) (k9 : S9) (w0 : World) (χ0 : Nat → Nat) (c_ : Histtext_Case) (a1 : Option Addr) (c1 : Nat) (a2 : Option Addr) (c2 : Nat) (Q : Histtext_Case × Int → Prop) (hm : VC14 c_ Q) (h1 : RS tApi_Row w0 χ0 a1 c_.Object.Rows c1) (h2 : RS tApi_Event w0 χ0 a2 c_.Events c2) :
  Ret Try.prog 14 #[.agg #[.int .i64 c_.Object.States, .int .i64 c_.Object.Kinds, .int .i64 c_.Object.Init, .slice a1 c_.Object.Rows.length c1, .slice a2 c_.Events.length c2]] xnone w0 χ0 (fun w χ' v => ∃ r, Q r ∧ ∃ (ra1 : Option Addr) (rc1 : Nat) (ra2 : Option Addr) (rc2 : Nat), v = .tuple #[.agg #[.int .i64 r.1.Object.States, .int .i64 r.1.Object.Kinds, .int .i64 r.1.Object.Init, .slice ra1 r.1.Object.Rows.length rc1, .slice ra2 r.1.Events.length rc2], .int .i64 r.2] ∧ RS tApi_Row w χ' ra1 r.1.Object.Rows rc1 ∧ RS tApi_Event w χ' ra2 r.1.Events rc2) := by
 unfold VC14 at hm
 replace hm := hm (h1.sm kr)
 replace hm := hm (h2.sm kr)
 refine enter Try.func14 rfl (vals := [.agg #[.int .i64 c_.Object.States, .int .i64 c_.Object.Kinds, .int .i64 c_.Object.Init, .slice a1 c_.Object.Rows.length c1, .slice a2 c_.Events.length c2]]) kr ?_
 intro ρ a hS hO hM
 replace h1 := h1.m0 hM
 replace h2 := h2.m0 hM
 clear hM
 refine rM T hS ⟨[(1, Pt 2 0), (2, Pt 3 0)], [(2, (33, [I c_.Object.States, I c_.Object.Kinds, I c_.Object.Init, Sl a1 c_.Object.Rows c1, Sl a2 c_.Events c2])), (3, (33, [I 0, I 0, I 0, V (.slice none 0 0), V (.slice none 0 0)]))]⟩ fun ρ a w303 χ304 hS hE hr => ?_
 replace hO := hO.mv hE rfl rfl
 replace h1 := h1.mv hE rfl
 replace h2 := h2.mv hE rfl
 clear hE hr
 refine regO ?_
 refine oP T hS 1 ⟨[(1, Pt 2 0), (2, Pt 3 0), (13, V (.agg #[.int .i64 c_.Object.States, .int .i64 c_.Object.Kinds, .int .i64 c_.Object.Init, .slice a1 c_.Object.Rows.length c1, .slice a2 c_.Events.length c2]))], [(2, (33, [I c_.Object.States, I c_.Object.Kinds, I c_.Object.Init, Sl a1 c_.Object.Rows c1, Sl a2 c_.Events c2])), (3, (33, [I 0, I 0, I 0, V (.slice none 0 0), V (.slice none 0 0)]))]⟩ fun a hS => ?_
 obtain ⟨hq, hm⟩ := hm
 refine op1 (call hS kr kr hb12 kr (fun _ _ => rfl) (k12 _ _ c_ a1 c1 a2 c2 hq h1 h2) ?_)
 intro v101 a w102 χ103 hE hp hS
 replace hO := hO.mv hE rfl rfl
 replace h1 := h1.mv hE rfl
 replace h2 := h2.mv hE rfl
 obtain ⟨r104, hr⟩ : ∃ r, shrink_Head c_ = r := ⟨_, rfl⟩
 replace hm := hm r104 hr
 rw [hr] at hp
 clear hr
 subst hp
 refine eP T hS ⟨[(1, Pt 2 0), (2, Pt 3 0), (3, I r104.2), (4, I r104.1)], [(2, (33, [I c_.Object.States, I c_.Object.Kinds, I c_.Object.Init, Sl a1 c_.Object.Rows c1, Sl a2 c_.Events c2])), (3, (33, [I 0, I 0, I 0, V (.slice none 0 0), V (.slice none 0 0)]))]⟩ fun a hS => ?_
 refine wseq (rP T hS ⟨[(1, Pt 2 0), (2, Pt 3 0), (3, I r104.2), (4, I r104.1), (18, B (r104.2 != 0))], [(2, (33, [I c_.Object.States, I c_.Object.Kinds, I c_.Object.Init, Sl a1 c_.Object.Rows c1, Sl a2 c_.Events c2])), (3, (33, [I 0, I 0, I 0, V (.slice none 0 0), V (.slice none 0 0)]))]⟩ fun a hS => ?_)
 refine wcond hS (b := (r104.2 != 0)) kr (fun hb => ?_) (fun hb => ?_)
 ·replace hm := hm.1 hb
  refine rM T hS ⟨[(2, Pt 3 0), (3, I r104.2)], [(3, (33, [I 0, I 0, I 0, V (.slice none 0 0), V (.slice none 0 0)]))]⟩ fun ρ a w105 χ106 hS hE hr => ?_
  replace hO := hO.mv hE rfl rfl
  clear hE hr
  refine wret ?_
  exact fin T hS hO (fun c => c) rfl (r := [.agg #[.int .i64 0, .int .i64 0, .int .i64 0, .slice none 0 0, .slice none 0 0], .int .i64 r104.2]) kr (fun χ' hM hC => ⟨((⟨(⟨0, 0, 0, []⟩ : Api_Object), []⟩ : Histtext_Case), r104.2), hm, none, 0, none, 0, rfl, RS.empty _ _ _, RS.empty _ _ _⟩)
 replace hm := hm.2 hb
 refine wskip ?_
 refine rM T hS ⟨[(1, Pt 2 0), (2, Pt 3 0), (4, I r104.1), (5, Pt 6 0)], [(2, (33, [I c_.Object.States, I c_.Object.Kinds, I c_.Object.Init, Sl a1 c_.Object.Rows c1, Sl a2 c_.Events c2])), (3, (33, [I 0, I 0, I 0, V (.slice none 0 0), V (.slice none 0 0)])), (6, (24, [I c_.Object.States, I c_.Object.Kinds, I c_.Object.Init, Sl a1 c_.Object.Rows c1]))]⟩ fun ρ a w301 χ302 hS hE hr => ?_
 replace hO := hO.mv hE rfl rfl
 replace h1 := h1.mv hE rfl
 replace h2 := h2.mv hE rfl
 clear hE hr
 refine regO ?_
 refine oP T hS 2 ⟨[(1, Pt 2 0), (2, Pt 3 0), (4, I r104.1), (5, Pt 6 0), (24, Sl a1 c_.Object.Rows c1)], [(2, (33, [I c_.Object.States, I c_.Object.Kinds, I c_.Object.Init, Sl a1 c_.Object.Rows c1, Sl a2 c_.Events c2])), (3, (33, [I 0, I 0, I 0, V (.slice none 0 0), V (.slice none 0 0)])), (6, (24, [I c_.Object.States, I c_.Object.Kinds, I c_.Object.Init, Sl a1 c_.Object.Rows c1]))]⟩ fun a hS => ?_
 obtain ⟨hq, hm⟩ := hm
 refine op1 (call hS kr kr hb32 kr (fun _ _ => rfl) (k32 _ _ c_.Object.Rows a1 c1 hq h1) ?_)
 intro v107 a w108 χ109 hE hp hS
 replace hO := hO.mv hE rfl rfl
 replace h1 := h1.mv hE rfl
 replace h2 := h2.mv hE rfl
 obtain ⟨a111, c112, hp, h113⟩ := hp
 obtain ⟨r110, hr⟩ : ∃ r, slices_Clone_api_Row_api_Row c_.Object.Rows = r := ⟨_, rfl⟩
 replace hm := hm r110 hr
 rw [hr] at hp h113
 clear hr
 subst hp
 replace hm := hm (h113.sm kr)
 refine eM T hS ⟨[(1, Pt 2 0), (2, Pt 3 0), (4, I r104.1), (5, Pt 6 0)], [(2, (33, [I c_.Object.States, I c_.Object.Kinds, I c_.Object.Init, Sl a1 c_.Object.Rows c1, Sl a2 c_.Events c2])), (3, (33, [I 0, I 0, I 0, V (.slice none 0 0), V (.slice none 0 0)])), (6, (24, [I c_.Object.States, I c_.Object.Kinds, I c_.Object.Init, Sl a111 r110 c112]))]⟩ fun ρ a w299 χ300 hS hE hr => ?_
 replace hO := hO.mv hE rfl rfl
 replace h1 := h1.mv hE rfl
 replace h2 := h2.mv hE rfl
 replace h113 := h113.mv hE rfl
 clear hE hr
 refine drawnSX [2, 6] mixed hS ?_
 intro w114 χ115 hS hE hD hH
 replace hO := hO.mv hE rfl rfl
 replace h1 := h1.mv hE rfl
 replace h2 := h2.mv hE rfl
 replace h113 := h113.mv hE rfl
 refine tk T [0, 1, 3, 2] [2, 6] hS hH #[true, true, true, true, false, false, false, false] 4 ⟨[(1, Pt 2 0), (2, Pt 3 0), (27, V (.agg #[.int .i64 c_.Object.States, .int .i64 c_.Object.Kinds, .int .i64 c_.Object.Init, .slice a111 r110.length c112])), (29, Sl a2 c_.Events c2), (30, I r104.1)], [(2, (33, [I c_.Object.States, I c_.Object.Kinds, I c_.Object.Init, Sl a1 c_.Object.Rows c1, Sl a2 c_.Events c2])), (3, (33, [I 0, I 0, I 0, V (.slice none 0 0), V (.slice none 0 0)])), (6, (24, [I c_.Object.States, I c_.Object.Kinds, I c_.Object.Init, Sl a111 r110 c112]))]⟩ fun a hS => ?_
 obtain ⟨hq, hm⟩ := hm
 refine dslice0 (E := 54) (kh := .i64) T 4 hS kr kr kr (by rfl) kr hH kr kr h2 kr kr hq.1 hq.2 ?_
 intro a116 c117 a h118 hS
 obtain ⟨hq, hm⟩ := hm
 refine only 5 kr (by rfl) (call hS kr kr hb33 kr (fun _ _ => rfl) (k33 _ _ (c_.Events.take r104.1.toNat) a116 c117 hq h118) ?_)
 intro v119 a w120 χ121 hE hp hS
 replace hO := hO.mv hE rfl rfl
 replace hD := hD.ev hE rfl
 replace h1 := h1.mv hE rfl
 replace h2 := h2.mv hE rfl
 replace h113 := h113.mv hE rfl
 replace h118 := h118.mv hE rfl
 obtain ⟨a123, c124, hp, h125⟩ := hp
 obtain ⟨r122, hr⟩ : ∃ r, slices_Clone_api_Event_api_Event (c_.Events.take r104.1.toNat) = r := ⟨_, rfl⟩
 replace hm := hm r122 hr
 rw [hr] at hp h125
 clear hr
 subst hp
 replace hm := hm (h125.sm kr)
 replace hS := hS.sl ⟨[(1, Pt 2 0), (2, Pt 3 0), (27, V (.agg #[.int .i64 c_.Object.States, .int .i64 c_.Object.Kinds, .int .i64 c_.Object.Init, .slice a111 r110.length c112])), (29, Sl a2 c_.Events c2), (30, I r104.1), (31, Sl a116 (c_.Events.take r104.1.toNat) c117), (32, Sl a123 r122 c124)], [(2, (33, [I c_.Object.States, I c_.Object.Kinds, I c_.Object.Init, Sl a1 c_.Object.Rows c1, Sl a2 c_.Events c2])), (3, (33, [I 0, I 0, I 0, V (.slice none 0 0), V (.slice none 0 0)])), (6, (24, [I c_.Object.States, I c_.Object.Kinds, I c_.Object.Init, Sl a111 r110 c112]))]⟩
 refine andH (Hold.of hS (bks := [2, 6]) kr hD) ?_
 intro hH
 refine tk T [6] [2, 6] hS hH #[true, true, true, true, true, true, true, false] 1 ⟨[(1, Pt 2 0), (2, Pt 3 0), (33, V (.agg #[.int .i64 c_.Object.States, .int .i64 c_.Object.Kinds, .int .i64 c_.Object.Init, .slice a111 r110.length c112, .slice a123 r122.length c124]))], [(2, (33, [I c_.Object.States, I c_.Object.Kinds, I c_.Object.Init, Sl a1 c_.Object.Rows c1, Sl a2 c_.Events c2])), (3, (33, [I 0, I 0, I 0, V (.slice none 0 0), V (.slice none 0 0)])), (6, (24, [I c_.Object.States, I c_.Object.Kinds, I c_.Object.Init, Sl a111 r110 c112]))]⟩ fun a hS => ?_
 replace hS := hS.sl ⟨[(1, Pt 2 0), (2, Pt 3 0), (33, V (.agg #[.int .i64 c_.Object.States, .int .i64 c_.Object.Kinds, .int .i64 c_.Object.Init, .slice a111 r110.length c112, .slice a123 r122.length c124]))], [(2, (33, [I c_.Object.States, I c_.Object.Kinds, I c_.Object.Init, Sl a1 c_.Object.Rows c1, Sl a2 c_.Events c2])), (3, (33, [I 0, I 0, I 0, V (.slice none 0 0), V (.slice none 0 0)])), (6, (24, [I c_.Object.States, I c_.Object.Kinds, I c_.Object.Init, Sl a111 r110 c112]))]⟩
 refine only 7 kr (by rfl) (store1 T hS kr kr (sy' := ⟨[(1, Pt 2 0), (2, Pt 3 0), (33, V (.agg #[.int .i64 c_.Object.States, .int .i64 c_.Object.Kinds, .int .i64 c_.Object.Init, .slice a111 r110.length c112, .slice a123 r122.length c124]))], [(3, (33, [I c_.Object.States, I c_.Object.Kinds, I c_.Object.Init, Sl a111 r110 c112, Sl a123 r122 c124])), (2, (33, [I c_.Object.States, I c_.Object.Kinds, I c_.Object.Init, Sl a1 c_.Object.Rows c1, Sl a2 c_.Events c2])), (3, (33, [I 0, I 0, I 0, V (.slice none 0 0), V (.slice none 0 0)])), (6, (24, [I c_.Object.States, I c_.Object.Kinds, I c_.Object.Init, Sl a111 r110 c112]))]⟩) kr ?_)
 intro a w126 χ127 hS hE
 replace hO := hO.mv hE rfl rfl
 replace hD := hD.ev hE rfl
 replace h1 := h1.mv hE rfl
 replace h2 := h2.mv hE rfl
 replace h113 := h113.mv hE rfl
 replace h118 := h118.mv hE rfl
 replace h125 := h125.mv hE rfl
 replace hS := hS.sl ⟨[(1, Pt 2 0), (2, Pt 3 0), (33, V (.agg #[.int .i64 c_.Object.States, .int .i64 c_.Object.Kinds, .int .i64 c_.Object.Init, .slice a111 r110.length c112, .slice a123 r122.length c124]))], [(2, (33, [I c_.Object.States, I c_.Object.Kinds, I c_.Object.Init, Sl a1 c_.Object.Rows c1, Sl a2 c_.Events c2])), (3, (33, [I c_.Object.States, I c_.Object.Kinds, I c_.Object.Init, Sl a111 r110 c112, Sl a123 r122 c124])), (6, (24, [I c_.Object.States, I c_.Object.Kinds, I c_.Object.Init, Sl a111 r110 c112]))]⟩
 refine andH (Hold.of hS (bks := [2, 6]) kr hD) ?_
 intro hH
 refine drawnDone kr ?_
 clear hD hH
 replace hS := hS.sl ⟨[(1, Pt 2 0), (2, Pt 3 0)], [(2, (33, [I c_.Object.States, I c_.Object.Kinds, I c_.Object.Init, Sl a1 c_.Object.Rows c1, Sl a2 c_.Events c2])), (3, (33, [I c_.Object.States, I c_.Object.Kinds, I c_.Object.Init, Sl a111 r110 c112, Sl a123 r122 c124]))]⟩
 refine regO ?_
 refine oP T hS 2 ⟨[(1, Pt 2 0), (2, Pt 3 0), (36, Sl a123 r122 c124)], [(2, (33, [I c_.Object.States, I c_.Object.Kinds, I c_.Object.Init, Sl a1 c_.Object.Rows c1, Sl a2 c_.Events c2])), (3, (33, [I c_.Object.States, I c_.Object.Kinds, I c_.Object.Init, Sl a111 r110 c112, Sl a123 r122 c124]))]⟩ fun a hS => ?_
 refine op1 (call hS kr kr hb9 kr (fun _ _ => rfl) (k9 _ _ r122 a123 c124 h125) ?_)
 intro v128 a w129 χ130 hE hp hS
 replace hO := hO.mv hE rfl rfl
 replace h1 := h1.mv hE rfl
 replace h2 := h2.mv hE rfl
 replace h113 := h113.mv hE rfl
 replace h125 := h125.mv hE rfl
 obtain ⟨a132, c133, hp, h134⟩ := hp
 obtain ⟨r131, hr⟩ : ∃ r, oper_Of r122 = r := ⟨_, rfl⟩
 replace hm := hm r131 hr
 rw [hr] at hp h134
 clear hr
 subst hp
 replace hm := hm (h134.sm kr)
 refine eP T hS ⟨[(1, Pt 2 0), (2, Pt 3 0), (6, Sl a132 r131.1 c133)], [(2, (33, [I c_.Object.States, I c_.Object.Kinds, I c_.Object.Init, Sl a1 c_.Object.Rows c1, Sl a2 c_.Events c2])), (3, (33, [I c_.Object.States, I c_.Object.Kinds, I c_.Object.Init, Sl a111 r110 c112, Sl a123 r122 c124]))]⟩ fun a hS => ?_
 refine wcut (fun a w => ∃ (ρ : Nat → Nat) (χ : Nat → Nat) (x_135 : Int) (x_136 : Int) (x_137 : Int) (x_138 : List Api_Row) (x_142 : List Api_Event) (a139 : Option Addr) (c140 : Nat) (a143 : Option Addr) (c144 : Nat), VC14_J1 Q x_135 x_136 x_137 x_138 x_142 ∧ St Try.f14.ntmps ⟨[(2, Pt 3 0)], [(3, (33, [I x_135, I x_136, I x_137, Sl a139 x_138 c140, Sl a143 x_142 c144]))]⟩ ρ a w χ ∧ Old w0 χ0 w χ ∧ RS tApi_Row w χ a139 x_138 c140 ∧ RS tApi_Event w χ a143 x_142 c144) ?_ ?_
 ·refine rP T hS ⟨[(1, Pt 2 0), (2, Pt 3 0), (8, I (wR ((lN r131.1) - 1)))], [(2, (33, [I c_.Object.States, I c_.Object.Kinds, I c_.Object.Init, Sl a1 c_.Object.Rows c1, Sl a2 c_.Events c2])), (3, (33, [I c_.Object.States, I c_.Object.Kinds, I c_.Object.Init, Sl a111 r110 c112, Sl a123 r122 c124]))]⟩ fun a hS => ?_
  refine wblock ?_
  obtain ⟨I1, μ1, hm0, hm⟩ := hm
  refine wloop (σ := Int × Int × Int × Int × (List Api_Row) × (List Api_Event)) (fun s a w => ∃ (ρ : Nat → Nat) (χ : Nat → Nat) (a155 : Option Addr) (c156 : Nat) (a159 : Option Addr) (c160 : Nat), I1 s.1 s.2.1 s.2.2.1 s.2.2.2.1 s.2.2.2.2.1 s.2.2.2.2.2 ∧ St Try.f14.ntmps ⟨[(1, Pt 2 0), (2, Pt 3 0), (8, I s.1)], [(2, (33, [I c_.Object.States, I c_.Object.Kinds, I c_.Object.Init, Sl a1 c_.Object.Rows c1, Sl a2 c_.Events c2])), (3, (33, [I s.2.1, I s.2.2.1, I s.2.2.2.1, Sl a155 s.2.2.2.2.1 c156, Sl a159 s.2.2.2.2.2 c160]))]⟩ ρ a w χ ∧ Old w0 χ0 w χ ∧ RS tApi_Row w χ a1 c_.Object.Rows c1 ∧ RS tApi_Event w χ a2 c_.Events c2 ∧ RS tApi_Row w χ a155 s.2.2.2.2.1 c156 ∧ RS tApi_Event w χ a159 s.2.2.2.2.2 c160) (fun s => μ1 s.1 s.2.1 s.2.2.1 s.2.2.2.1 s.2.2.2.2.1 s.2.2.2.2.2) (⟨wR ((lN r131.1) - 1), c_.Object.States, c_.Object.Kinds, c_.Object.Init, r110, r122⟩) ?_ ?_
  ·exact ⟨ρ, _, a111, c112, a123, c124, hm0, hS.sl _, hO, h1, h2, h113, h125⟩
  rintro ⟨i_148, x_151, x_152, x_153, x_154, x_158⟩ a w296 ⟨ρ, χ295, a155, c156, a159, c160, hI, hS, hO, h149, h150, h157, h161⟩
  replace hm := hm i_148 x_151 x_152 x_153 x_154 x_158 hI
  clear hI hm0
  refine wseq (rP T hS ⟨[(1, Pt 2 0), (2, Pt 3 0), (8, I i_148), (44, B (decide (i_148 ≥ 0)))], [(2, (33, [I c_.Object.States, I c_.Object.Kinds, I c_.Object.Init, Sl a1 c_.Object.Rows c1, Sl a2 c_.Events c2])), (3, (33, [I x_151, I x_152, I x_153, Sl a155 x_154 c156, Sl a159 x_158 c160]))]⟩ fun a hS => ?_)
  refine wcond hS (b := decide (i_148 ≥ 0)) kr (fun hb => ?_) (fun hb => ?_)
  ·replace hm := hm.1 hb
   refine wskip ?_
   refine wcut (fun a w => ∃ (ρ : Nat → Nat) (χ : Nat → Nat) (x_165 : List Api_Event) (a166 : Option Addr) (c167 : Nat), VC14_J2 I1 μ1 i_148 x_151 x_152 x_153 x_154 x_158 x_165 ∧ St Try.f14.ntmps ⟨[(1, Pt 2 0), (2, Pt 3 0), (8, I i_148)], [(2, (33, [I c_.Object.States, I c_.Object.Kinds, I c_.Object.Init, Sl a1 c_.Object.Rows c1, Sl a2 c_.Events c2])), (3, (33, [I x_151, I x_152, I x_153, Sl a155 x_154 c156, Sl a166 x_165 c167]))]⟩ ρ a w χ ∧ Old w0 χ0 w χ ∧ RS tApi_Row w χ a1 c_.Object.Rows c1 ∧ RS tApi_Event w χ a2 c_.Events c2 ∧ RS tApi_Row w χ a155 x_154 c156 ∧ RS tApi_Event w χ a166 x_165 c167) ?_ ?_
   ·refine wblock ?_
    refine drawnSX [2, 3] mixed hS ?_
    intro w169 χ170 hS hE hD hH
    replace hO := hO.mv hE rfl rfl
    replace h149 := h149.mv hE rfl
    replace h150 := h150.mv hE rfl
    replace h157 := h157.mv hE rfl
    replace h161 := h161.mv hE rfl
    refine tk T [0, 2, 4, 1, 3] [2, 3] hS hH #[true, true, true, true, true, false, false, false, false, false] 5 ⟨[(1, Pt 2 0), (2, Pt 3 0), (8, I i_148), (48, V (.agg #[.int .i64 c_.Object.States, .int .i64 c_.Object.Kinds, .int .i64 c_.Object.Init, .slice a1 c_.Object.Rows.length c1])), (50, Sl a159 x_158 c160), (51, I i_148)], [(2, (33, [I c_.Object.States, I c_.Object.Kinds, I c_.Object.Init, Sl a1 c_.Object.Rows c1, Sl a2 c_.Events c2])), (3, (33, [I x_151, I x_152, I x_153, Sl a155 x_154 c156, Sl a159 x_158 c160]))]⟩ fun a hS => ?_
    obtain ⟨hgp6, hm⟩ := hm
    obtain ⟨r178, hgr6⟩ : ∃ r, shrink_Without x_158 [i_148] = r := ⟨_, rfl⟩
    replace hm := hm r178 hgr6
    obtain ⟨ρz240, hρz⟩ : ∃ q : Nat → Nat, q = ρ := ⟨ρ, rfl⟩
    subst hρz
    refine drcut (fun a w => ∃ (ρ : Nat → Nat) (χ : Nat → Nat) (a235 : Option Addr) (c236 : Nat), (∀ id, id ≠ 10 → ρ id = ρz240 id) ∧ St Try.f14.ntmps ⟨[(1, Pt 2 0), (2, Pt 3 0), (8, I i_148), (9, Pt 10 0), (54, V (.agg #[.int .i64 c_.Object.States, .int .i64 c_.Object.Kinds, .int .i64 c_.Object.Init, .slice a1 c_.Object.Rows.length c1, .slice a235 r178.length c236]))], [(2, (33, [I c_.Object.States, I c_.Object.Kinds, I c_.Object.Init, Sl a1 c_.Object.Rows c1, Sl a2 c_.Events c2])), (3, (33, [I x_151, I x_152, I x_153, Sl a155 x_154 c156, Sl a159 x_158 c160])), (10, (33, [I 0, I 0, I 0, V (.slice none 0 0), V (.slice none 0 0)]))]⟩ ρ a w χ ∧ Old w0 χ0 w χ ∧ M0 w169 χ170 w χ ∧ Hold w169 χ170 (filt [2, 3] ⟨[(1, Pt 2 0), (2, Pt 3 0), (8, I i_148)], [(2, (33, [I c_.Object.States, I c_.Object.Kinds, I c_.Object.Init, Sl a1 c_.Object.Rows c1, Sl a2 c_.Events c2])), (3, (33, [I x_151, I x_152, I x_153, Sl a155 x_154 c156, Sl a159 x_158 c160]))]⟩) ρz240 w ∧ RS tApi_Row w χ a1 c_.Object.Rows c1 ∧ RS tApi_Event w χ a235 r178 c236 ∧ RS tApi_Event w χ a2 c_.Events c2 ∧ RS tApi_Row w χ a155 x_154 c156 ∧ RS tApi_Event w χ a159 x_158 c160) #[true, true, true, true, true, true, true, true, true, false] 1 ?_ (fun H => ?_)
    ·rintro a w281 ⟨ρ, χ280, a235, c236, hr241, hS, hO, hD, hH, h233, h234, h237, h238, h239⟩
     replace hm := hm (h234.sm kr)
     clear hgp6 hgr6
     replace hS := hS.sl ⟨[(1, Pt 2 0), (2, Pt 3 0), (8, I i_148), (9, Pt 10 0), (54, V (.agg #[.int .i64 c_.Object.States, .int .i64 c_.Object.Kinds, .int .i64 c_.Object.Init, .slice a1 c_.Object.Rows.length c1, .slice a235 r178.length c236]))], [(2, (33, [I c_.Object.States, I c_.Object.Kinds, I c_.Object.Init, Sl a1 c_.Object.Rows c1, Sl a2 c_.Events c2])), (3, (33, [I x_151, I x_152, I x_153, Sl a155 x_154 c156, Sl a159 x_158 c160])), (10, (33, [I 0, I 0, I 0, V (.slice none 0 0), V (.slice none 0 0)]))]⟩
     refine only 9 kr (by rfl) (store1 T hS kr kr (sy' := ⟨[(1, Pt 2 0), (2, Pt 3 0), (8, I i_148), (9, Pt 10 0), (54, V (.agg #[.int .i64 c_.Object.States, .int .i64 c_.Object.Kinds, .int .i64 c_.Object.Init, .slice a1 c_.Object.Rows.length c1, .slice a235 r178.length c236]))], [(10, (33, [I c_.Object.States, I c_.Object.Kinds, I c_.Object.Init, Sl a1 c_.Object.Rows c1, Sl a235 r178 c236])), (2, (33, [I c_.Object.States, I c_.Object.Kinds, I c_.Object.Init, Sl a1 c_.Object.Rows c1, Sl a2 c_.Events c2])), (3, (33, [I x_151, I x_152, I x_153, Sl a155 x_154 c156, Sl a159 x_158 c160])), (10, (33, [I 0, I 0, I 0, V (.slice none 0 0), V (.slice none 0 0)]))]⟩) kr ?_)
     intro a w282 χ283 hS hE
     replace hO := hO.mv hE rfl rfl
     replace hD := hD.ev hE rfl
     replace h233 := h233.mv hE rfl
     replace h234 := h234.mv hE rfl
     replace h237 := h237.mv hE rfl
     replace h238 := h238.mv hE rfl
     replace h239 := h239.mv hE rfl
     replace hS := hS.sl ⟨[(1, Pt 2 0), (2, Pt 3 0), (8, I i_148), (9, Pt 10 0), (54, V (.agg #[.int .i64 c_.Object.States, .int .i64 c_.Object.Kinds, .int .i64 c_.Object.Init, .slice a1 c_.Object.Rows.length c1, .slice a235 r178.length c236]))], [(2, (33, [I c_.Object.States, I c_.Object.Kinds, I c_.Object.Init, Sl a1 c_.Object.Rows c1, Sl a2 c_.Events c2])), (3, (33, [I x_151, I x_152, I x_153, Sl a155 x_154 c156, Sl a159 x_158 c160])), (10, (33, [I c_.Object.States, I c_.Object.Kinds, I c_.Object.Init, Sl a1 c_.Object.Rows c1, Sl a235 r178 c236]))]⟩
     refine andH ((Hold.of hS (bks := [2, 3]) kr hD).rho hr241 kr) ?_
     intro hH
     refine drawnDone kr ?_
     clear hD hH
     replace hS := hS.sl ⟨[(1, Pt 2 0), (2, Pt 3 0), (8, I i_148), (9, Pt 10 0)], [(2, (33, [I c_.Object.States, I c_.Object.Kinds, I c_.Object.Init, Sl a1 c_.Object.Rows c1, Sl a2 c_.Events c2])), (3, (33, [I x_151, I x_152, I x_153, Sl a155 x_154 c156, Sl a159 x_158 c160])), (10, (33, [I c_.Object.States, I c_.Object.Kinds, I c_.Object.Init, Sl a1 c_.Object.Rows c1, Sl a235 r178 c236]))]⟩
     refine regO ?_
     refine oP T hS 1 ⟨[(1, Pt 2 0), (2, Pt 3 0), (8, I i_148), (9, Pt 10 0), (56, V (.agg #[.int .i64 c_.Object.States, .int .i64 c_.Object.Kinds, .int .i64 c_.Object.Init, .slice a1 c_.Object.Rows.length c1, .slice a235 r178.length c236]))], [(2, (33, [I c_.Object.States, I c_.Object.Kinds, I c_.Object.Init, Sl a1 c_.Object.Rows c1, Sl a2 c_.Events c2])), (3, (33, [I x_151, I x_152, I x_153, Sl a155 x_154 c156, Sl a159 x_158 c160])), (10, (33, [I c_.Object.States, I c_.Object.Kinds, I c_.Object.Init, Sl a1 c_.Object.Rows c1, Sl a235 r178 c236]))]⟩ fun a hS => ?_
     obtain ⟨hq, hm⟩ := hm
     refine op1 (call hS kr kr hb12 kr (fun _ _ => rfl) (k12 _ _ (⟨c_.Object, r178⟩ : Histtext_Case) a1 c1 a235 c236 hq h233 h234) ?_)
     intro v284 a w285 χ286 hE hp hS
     replace hO := hO.mv hE rfl rfl
     replace h233 := h233.mv hE rfl
     replace h234 := h234.mv hE rfl
     replace h237 := h237.mv hE rfl
     replace h238 := h238.mv hE rfl
     replace h239 := h239.mv hE rfl
     obtain ⟨r287, hr⟩ : ∃ r, shrink_Head (⟨c_.Object, r178⟩ : Histtext_Case) = r := ⟨_, rfl⟩
     replace hm := hm r287 hr
     rw [hr] at hp
     clear hr
     subst hp
     refine eP T hS ⟨[(1, Pt 2 0), (2, Pt 3 0), (8, I i_148), (9, Pt 10 0), (10, I r287.1), (11, I r287.2)], [(2, (33, [I c_.Object.States, I c_.Object.Kinds, I c_.Object.Init, Sl a1 c_.Object.Rows c1, Sl a2 c_.Events c2])), (3, (33, [I x_151, I x_152, I x_153, Sl a155 x_154 c156, Sl a159 x_158 c160])), (10, (33, [I c_.Object.States, I c_.Object.Kinds, I c_.Object.Init, Sl a1 c_.Object.Rows c1, Sl a235 r178 c236]))]⟩ fun a hS => ?_
     refine rP T hS ⟨[(1, Pt 2 0), (2, Pt 3 0), (8, I i_148), (9, Pt 10 0), (10, I r287.1), (61, B (r287.2 == 0))], [(2, (33, [I c_.Object.States, I c_.Object.Kinds, I c_.Object.Init, Sl a1 c_.Object.Rows c1, Sl a2 c_.Events c2])), (3, (33, [I x_151, I x_152, I x_153, Sl a155 x_154 c156, Sl a159 x_158 c160])), (10, (33, [I c_.Object.States, I c_.Object.Kinds, I c_.Object.Init, Sl a1 c_.Object.Rows c1, Sl a235 r178 c236]))]⟩ fun a hS => ?_
     refine wcond hS (b := (r287.2 == 0)) kr (fun hb => ?_) (fun hb => ?_)
     ·replace hm := hm.1 hb
      refine region ?_
      refine oP T hS 3 ⟨[(1, Pt 2 0), (2, Pt 3 0), (8, I i_148), (63, Sl a235 r178 c236), (64, I r287.1)], [(2, (33, [I c_.Object.States, I c_.Object.Kinds, I c_.Object.Init, Sl a1 c_.Object.Rows c1, Sl a2 c_.Events c2])), (3, (33, [I x_151, I x_152, I x_153, Sl a155 x_154 c156, Sl a159 x_158 c160]))]⟩ fun a hS => ?_
      obtain ⟨hq, hm⟩ := hm
      refine op1 (slice0 (E := 54) (kh := .i64) T hS kr kr kr kr h234 kr kr hq.1 hq.2 ?_)
      intro a288 c289 a h290 hS
      refine eM T hS ⟨[(1, Pt 2 0), (2, Pt 3 0), (8, I i_148)], [(2, (33, [I c_.Object.States, I c_.Object.Kinds, I c_.Object.Init, Sl a1 c_.Object.Rows c1, Sl a2 c_.Events c2])), (3, (33, [I x_151, I x_152, I x_153, Sl a155 x_154 c156, Sl a288 (r178.take r287.1.toNat) c289]))]⟩ fun ρ a w291 χ292 hS hE hr => ?_
      replace hO := hO.mv hE rfl rfl
      replace h233 := h233.mv hE rfl
      replace h237 := h237.mv hE rfl
      replace h238 := h238.mv hE rfl
      replace h290 := h290.mv hE rfl
      clear hE hr
      exact ⟨ρ, _, r178.take r287.1.toNat, a288, c289, hm, hS.sl _, hO, h233, h237, h238, h290⟩
     replace hm := hm.2 hb
     refine wskip ?_
     exact ⟨ρ, _, x_158, a159, c160, hm, hS.sl _, hO, h233, h237, h238, h239⟩
    clear hm
    refine anyOf (is := [5, 8]) kr (by decide) ?_
    intro i hi
    obtain ⟨ρ, hρz⟩ : ∃ q : Nat → Nat, q = ρz240 := ⟨ρz240, rfl⟩
    subst hρz
    rcases mem2 hi with rfl | rfl
    ·refine oneOp (by rfl) (lit (E := 3) (col := 0) (T := tI) (vals := [.int .i64 i_148]) (ys := [i_148]) T hS kr kr kr kr (by exact ⟨rfl, trivial⟩) rfl kr kr kr kr ?_)
     intro b242 a w243 χ244 hE h245 hN hS
     clear hN
     replace hO := hO.mv hE rfl rfl
     replace hD := hD.ev hE rfl
     replace h149 := h149.mv hE rfl
     replace h150 := h150.mv hE rfl
     replace h157 := h157.mv hE rfl
     replace h161 := h161.mv hE rfl
     replace h245 := h245.rs0
     refine andH (Hold.of hS (bks := [2, 3]) kr hD) ?_
     intro hH
     refine anyOf (is := [6, 8]) kr (by decide) ?_
     intro i hi
     rcases mem2 hi with rfl | rfl
     ·have hq := hgp6
      refine oneOp (by rfl) (call hS kr kr hb18 kr (fun _ _ => rfl) (k18 _ _ x_158 [i_148] a159 c160 (some ⟨b242, 0, none⟩) 1 hq h161 h245) ?_)
      intro v246 a w247 χ248 hE hp hS
      replace hO := hO.mv hE rfl rfl
      replace hD := hD.ev hE rfl
      replace h149 := h149.mv hE rfl
      replace h150 := h150.mv hE rfl
      replace h157 := h157.mv hE rfl
      replace h161 := h161.mv hE rfl
      replace h245 := h245.mv hE rfl
      obtain ⟨a250, c251, hp, h252⟩ := hp
      rw [hgr6] at hp h252
      subst hp
      replace hS := hS.sl ⟨[(1, Pt 2 0), (2, Pt 3 0), (8, I i_148), (48, V (.agg #[.int .i64 c_.Object.States, .int .i64 c_.Object.Kinds, .int .i64 c_.Object.Init, .slice a1 c_.Object.Rows.length c1])), (50, Sl a159 x_158 c160), (51, I i_148), (52, Sl (some ⟨b242, 0, none⟩) [i_148] 1), (53, Sl a250 r178 c251)], [(2, (33, [I c_.Object.States, I c_.Object.Kinds, I c_.Object.Init, Sl a1 c_.Object.Rows c1, Sl a2 c_.Events c2])), (3, (33, [I x_151, I x_152, I x_153, Sl a155 x_154 c156, Sl a159 x_158 c160]))]⟩
      refine andH (Hold.of hS (bks := [2, 3]) kr hD) ?_
      intro hH
      refine tk T [7] [2, 3] hS hH #[true, true, true, true, true, true, true, true, false, false] 2 ⟨[(1, Pt 2 0), (2, Pt 3 0), (8, I i_148), (54, V (.agg #[.int .i64 c_.Object.States, .int .i64 c_.Object.Kinds, .int .i64 c_.Object.Init, .slice a1 c_.Object.Rows.length c1, .slice a250 r178.length c251]))], [(2, (33, [I c_.Object.States, I c_.Object.Kinds, I c_.Object.Init, Sl a1 c_.Object.Rows c1, Sl a2 c_.Events c2])), (3, (33, [I x_151, I x_152, I x_153, Sl a155 x_154 c156, Sl a159 x_158 c160]))]⟩ fun a hS => ?_
      replace hS := hS.sl ⟨[(1, Pt 2 0), (2, Pt 3 0), (8, I i_148), (54, V (.agg #[.int .i64 c_.Object.States, .int .i64 c_.Object.Kinds, .int .i64 c_.Object.Init, .slice a1 c_.Object.Rows.length c1, .slice a250 r178.length c251]))], [(2, (33, [I c_.Object.States, I c_.Object.Kinds, I c_.Object.Init, Sl a1 c_.Object.Rows c1, Sl a2 c_.Events c2])), (3, (33, [I x_151, I x_152, I x_153, Sl a155 x_154 c156, Sl a159 x_158 c160]))]⟩
      refine only 8 kr (by rfl) (box1 T hS kr kr kr (sy' := ⟨[(9, Pt 10 0), (1, Pt 2 0), (2, Pt 3 0), (8, I i_148), (54, V (.agg #[.int .i64 c_.Object.States, .int .i64 c_.Object.Kinds, .int .i64 c_.Object.Init, .slice a1 c_.Object.Rows.length c1, .slice a250 r178.length c251]))], [(10, (33, [I 0, I 0, I 0, V (.slice none 0 0), V (.slice none 0 0)])), (2, (33, [I c_.Object.States, I c_.Object.Kinds, I c_.Object.Init, Sl a1 c_.Object.Rows c1, Sl a2 c_.Events c2])), (3, (33, [I x_151, I x_152, I x_153, Sl a155 x_154 c156, Sl a159 x_158 c160]))]⟩) kr ?_)
      intro ρ a w253 χ254 hS hE hr255
      replace hO := hO.mv hE rfl rfl
      replace hD := hD.ev hE rfl
      replace h149 := h149.mv hE rfl
      replace h150 := h150.mv hE rfl
      replace h157 := h157.mv hE rfl
      replace h161 := h161.mv hE rfl
      replace h245 := h245.mv hE rfl
      replace h252 := h252.mv hE rfl
      replace hS := hS.sl ⟨[(1, Pt 2 0), (2, Pt 3 0), (8, I i_148), (54, V (.agg #[.int .i64 c_.Object.States, .int .i64 c_.Object.Kinds, .int .i64 c_.Object.Init, .slice a1 c_.Object.Rows.length c1, .slice a250 r178.length c251])), (9, Pt 10 0)], [(2, (33, [I c_.Object.States, I c_.Object.Kinds, I c_.Object.Init, Sl a1 c_.Object.Rows c1, Sl a2 c_.Events c2])), (3, (33, [I x_151, I x_152, I x_153, Sl a155 x_154 c156, Sl a159 x_158 c160])), (10, (33, [I 0, I 0, I 0, V (.slice none 0 0), V (.slice none 0 0)]))]⟩
      refine andH ((Hold.of hS (bks := [2, 3]) kr hD).rho hr255 kr) ?_
      intro hH
      exact H _ _ ⟨ρ, _, a250, c251, hr255, hS.sl _, hO, hD, hH, h149, h252, h150, h157, h161⟩
     replace hS := hS.sl ⟨[(1, Pt 2 0), (2, Pt 3 0), (8, I i_148), (48, V (.agg #[.int .i64 c_.Object.States, .int .i64 c_.Object.Kinds, .int .i64 c_.Object.Init, .slice a1 c_.Object.Rows.length c1])), (50, Sl a159 x_158 c160), (51, I i_148), (52, Sl (some ⟨b242, 0, none⟩) [i_148] 1)], [(2, (33, [I c_.Object.States, I c_.Object.Kinds, I c_.Object.Init, Sl a1 c_.Object.Rows c1, Sl a2 c_.Events c2])), (3, (33, [I x_151, I x_152, I x_153, Sl a155 x_154 c156, Sl a159 x_158 c160]))]⟩
     refine oneOp (by rfl) (box1 T hS kr kr kr (sy' := ⟨[(9, Pt 10 0), (1, Pt 2 0), (2, Pt 3 0), (8, I i_148), (48, V (.agg #[.int .i64 c_.Object.States, .int .i64 c_.Object.Kinds, .int .i64 c_.Object.Init, .slice a1 c_.Object.Rows.length c1])), (50, Sl a159 x_158 c160), (51, I i_148), (52, Sl (some ⟨b242, 0, none⟩) [i_148] 1)], [(10, (33, [I 0, I 0, I 0, V (.slice none 0 0), V (.slice none 0 0)])), (2, (33, [I c_.Object.States, I c_.Object.Kinds, I c_.Object.Init, Sl a1 c_.Object.Rows c1, Sl a2 c_.Events c2])), (3, (33, [I x_151, I x_152, I x_153, Sl a155 x_154 c156, Sl a159 x_158 c160]))]⟩) kr ?_)
     intro ρ a w256 χ257 hS hE hr258
     replace hO := hO.mv hE rfl rfl
     replace hD := hD.ev hE rfl
     replace h149 := h149.mv hE rfl
     replace h150 := h150.mv hE rfl
     replace h157 := h157.mv hE rfl
     replace h161 := h161.mv hE rfl
     replace h245 := h245.mv hE rfl
     replace hS := hS.sl ⟨[(1, Pt 2 0), (2, Pt 3 0), (8, I i_148), (48, V (.agg #[.int .i64 c_.Object.States, .int .i64 c_.Object.Kinds, .int .i64 c_.Object.Init, .slice a1 c_.Object.Rows.length c1])), (50, Sl a159 x_158 c160), (51, I i_148), (52, Sl (some ⟨b242, 0, none⟩) [i_148] 1), (9, Pt 10 0)], [(2, (33, [I c_.Object.States, I c_.Object.Kinds, I c_.Object.Init, Sl a1 c_.Object.Rows c1, Sl a2 c_.Events c2])), (3, (33, [I x_151, I x_152, I x_153, Sl a155 x_154 c156, Sl a159 x_158 c160])), (10, (33, [I 0, I 0, I 0, V (.slice none 0 0), V (.slice none 0 0)]))]⟩
     refine andH ((Hold.of hS (bks := [2, 3]) kr hD).rho hr258 kr) ?_
     intro hH
     have hq := hgp6
     refine only 6 kr (by rfl) (call hS kr kr hb18 kr (fun _ _ => rfl) (k18 _ _ x_158 [i_148] a159 c160 (some ⟨b242, 0, none⟩) 1 hq h161 h245) ?_)
     intro v259 a w260 χ261 hE hp hS
     replace hO := hO.mv hE rfl rfl
     replace hD := hD.ev hE rfl
     replace h149 := h149.mv hE rfl
     replace h150 := h150.mv hE rfl
     replace h157 := h157.mv hE rfl
     replace h161 := h161.mv hE rfl
     replace h245 := h245.mv hE rfl
     obtain ⟨a263, c264, hp, h265⟩ := hp
     rw [hgr6] at hp h265
     subst hp
     replace hS := hS.sl ⟨[(1, Pt 2 0), (2, Pt 3 0), (8, I i_148), (48, V (.agg #[.int .i64 c_.Object.States, .int .i64 c_.Object.Kinds, .int .i64 c_.Object.Init, .slice a1 c_.Object.Rows.length c1])), (50, Sl a159 x_158 c160), (51, I i_148), (52, Sl (some ⟨b242, 0, none⟩) [i_148] 1), (9, Pt 10 0), (53, Sl a263 r178 c264)], [(2, (33, [I c_.Object.States, I c_.Object.Kinds, I c_.Object.Init, Sl a1 c_.Object.Rows c1, Sl a2 c_.Events c2])), (3, (33, [I x_151, I x_152, I x_153, Sl a155 x_154 c156, Sl a159 x_158 c160])), (10, (33, [I 0, I 0, I 0, V (.slice none 0 0), V (.slice none 0 0)]))]⟩
     refine andH ((Hold.of hS (bks := [2, 3]) kr hD).rho hr258 kr) ?_
     intro hH
     refine takeZ T hr258 kr [7] [2, 3] [1, 2, 8, 9, 54] hS kr kr kr hH (listed' := #[true, true, true, true, true, true, true, true, true, false]) (fuel := 1) (sy' := ⟨[(1, Pt 2 0), (2, Pt 3 0), (8, I i_148), (9, Pt 10 0), (54, V (.agg #[.int .i64 c_.Object.States, .int .i64 c_.Object.Kinds, .int .i64 c_.Object.Init, .slice a1 c_.Object.Rows.length c1, .slice a263 r178.length c264]))], [(2, (33, [I c_.Object.States, I c_.Object.Kinds, I c_.Object.Init, Sl a1 c_.Object.Rows c1, Sl a2 c_.Events c2])), (3, (33, [I x_151, I x_152, I x_153, Sl a155 x_154 c156, Sl a159 x_158 c160])), (10, (33, [I 0, I 0, I 0, V (.slice none 0 0), V (.slice none 0 0)]))]⟩) kr (by rfl) ?_
     intro a hS
     exact H _ _ ⟨ρ, _, a263, c264, hr258, hS.sl _, hO, hD, hH, h149, h265, h150, h157, h161⟩
    replace hS := hS.sl ⟨[(1, Pt 2 0), (2, Pt 3 0), (8, I i_148), (48, V (.agg #[.int .i64 c_.Object.States, .int .i64 c_.Object.Kinds, .int .i64 c_.Object.Init, .slice a1 c_.Object.Rows.length c1])), (50, Sl a159 x_158 c160), (51, I i_148)], [(2, (33, [I c_.Object.States, I c_.Object.Kinds, I c_.Object.Init, Sl a1 c_.Object.Rows c1, Sl a2 c_.Events c2])), (3, (33, [I x_151, I x_152, I x_153, Sl a155 x_154 c156, Sl a159 x_158 c160]))]⟩
    refine oneOp (by rfl) (box1 T hS kr kr kr (sy' := ⟨[(9, Pt 10 0), (1, Pt 2 0), (2, Pt 3 0), (8, I i_148), (48, V (.agg #[.int .i64 c_.Object.States, .int .i64 c_.Object.Kinds, .int .i64 c_.Object.Init, .slice a1 c_.Object.Rows.length c1])), (50, Sl a159 x_158 c160), (51, I i_148)], [(10, (33, [I 0, I 0, I 0, V (.slice none 0 0), V (.slice none 0 0)])), (2, (33, [I c_.Object.States, I c_.Object.Kinds, I c_.Object.Init, Sl a1 c_.Object.Rows c1, Sl a2 c_.Events c2])), (3, (33, [I x_151, I x_152, I x_153, Sl a155 x_154 c156, Sl a159 x_158 c160]))]⟩) kr ?_)
    intro ρ a w266 χ267 hS hE hr268
    replace hO := hO.mv hE rfl rfl
    replace hD := hD.ev hE rfl
    replace h149 := h149.mv hE rfl
    replace h150 := h150.mv hE rfl
    replace h157 := h157.mv hE rfl
    replace h161 := h161.mv hE rfl
    replace hS := hS.sl ⟨[(1, Pt 2 0), (2, Pt 3 0), (8, I i_148), (48, V (.agg #[.int .i64 c_.Object.States, .int .i64 c_.Object.Kinds, .int .i64 c_.Object.Init, .slice a1 c_.Object.Rows.length c1])), (50, Sl a159 x_158 c160), (51, I i_148), (9, Pt 10 0)], [(2, (33, [I c_.Object.States, I c_.Object.Kinds, I c_.Object.Init, Sl a1 c_.Object.Rows c1, Sl a2 c_.Events c2])), (3, (33, [I x_151, I x_152, I x_153, Sl a155 x_154 c156, Sl a159 x_158 c160])), (10, (33, [I 0, I 0, I 0, V (.slice none 0 0), V (.slice none 0 0)]))]⟩
    refine andH ((Hold.of hS (bks := [2, 3]) kr hD).rho hr268 kr) ?_
    intro hH
    refine only 5 kr (by rfl) (lit (E := 3) (col := 0) (T := tI) (vals := [.int .i64 i_148]) (ys := [i_148]) T hS kr kr kr kr (by exact ⟨rfl, trivial⟩) rfl kr kr kr kr ?_)
    intro b269 a w270 χ271 hE h272 hN hS
    clear hN
    replace hO := hO.mv hE rfl rfl
    replace hD := hD.ev hE rfl
    replace h149 := h149.mv hE rfl
    replace h150 := h150.mv hE rfl
    replace h157 := h157.mv hE rfl
    replace h161 := h161.mv hE rfl
    replace h272 := h272.rs0
    refine andH ((Hold.of hS (bks := [2, 3]) kr hD).rho hr268 kr) ?_
    intro hH
    have hq := hgp6
    refine only 6 kr (by rfl) (call hS kr kr hb18 kr (fun _ _ => rfl) (k18 _ _ x_158 [i_148] a159 c160 (some ⟨b269, 0, none⟩) 1 hq h161 h272) ?_)
    intro v273 a w274 χ275 hE hp hS
    replace hO := hO.mv hE rfl rfl
    replace hD := hD.ev hE rfl
    replace h149 := h149.mv hE rfl
    replace h150 := h150.mv hE rfl
    replace h157 := h157.mv hE rfl
    replace h161 := h161.mv hE rfl
    replace h272 := h272.mv hE rfl
    obtain ⟨a277, c278, hp, h279⟩ := hp
    rw [hgr6] at hp h279
    subst hp
    replace hS := hS.sl ⟨[(1, Pt 2 0), (2, Pt 3 0), (8, I i_148), (48, V (.agg #[.int .i64 c_.Object.States, .int .i64 c_.Object.Kinds, .int .i64 c_.Object.Init, .slice a1 c_.Object.Rows.length c1])), (50, Sl a159 x_158 c160), (51, I i_148), (9, Pt 10 0), (52, Sl (some ⟨b269, 0, none⟩) [i_148] 1), (53, Sl a277 r178 c278)], [(2, (33, [I c_.Object.States, I c_.Object.Kinds, I c_.Object.Init, Sl a1 c_.Object.Rows c1, Sl a2 c_.Events c2])), (3, (33, [I x_151, I x_152, I x_153, Sl a155 x_154 c156, Sl a159 x_158 c160])), (10, (33, [I 0, I 0, I 0, V (.slice none 0 0), V (.slice none 0 0)]))]⟩
    refine andH ((Hold.of hS (bks := [2, 3]) kr hD).rho hr268 kr) ?_
    intro hH
    refine takeZ T hr268 kr [7] [2, 3] [1, 2, 8, 9, 54] hS kr kr kr hH (listed' := #[true, true, true, true, true, true, true, true, true, false]) (fuel := 1) (sy' := ⟨[(1, Pt 2 0), (2, Pt 3 0), (8, I i_148), (9, Pt 10 0), (54, V (.agg #[.int .i64 c_.Object.States, .int .i64 c_.Object.Kinds, .int .i64 c_.Object.Init, .slice a1 c_.Object.Rows.length c1, .slice a277 r178.length c278]))], [(2, (33, [I c_.Object.States, I c_.Object.Kinds, I c_.Object.Init, Sl a1 c_.Object.Rows c1, Sl a2 c_.Events c2])), (3, (33, [I x_151, I x_152, I x_153, Sl a155 x_154 c156, Sl a159 x_158 c160])), (10, (33, [I 0, I 0, I 0, V (.slice none 0 0), V (.slice none 0 0)]))]⟩) kr (by rfl) ?_
    intro a hS
    exact H _ _ ⟨ρ, _, a277, c278, hr268, hS.sl _, hO, hD, hH, h149, h279, h150, h157, h161⟩
   rintro a w294 ⟨ρ, χ293, x_165, a166, c167, hm, hS, hO, h162, h163, h164, h168⟩
   unfold VC14_J2 at hm
   refine region (eP T hS ⟨[(1, Pt 2 0), (2, Pt 3 0), (8, I (wR (i_148 - 1)))], [(2, (33, [I c_.Object.States, I c_.Object.Kinds, I c_.Object.Init, Sl a1 c_.Object.Rows c1, Sl a2 c_.Events c2])), (3, (33, [I x_151, I x_152, I x_153, Sl a155 x_154 c156, Sl a166 x_165 c167]))]⟩ fun a hS => ?_)
   exact ⟨⟨wR (i_148 - 1), x_151, x_152, x_153, x_154, x_165⟩, ⟨ρ, _, a155, c156, a166, c167, hm.1, hS.sl _, hO, h162, h163, h164, h168⟩, hm.2⟩
  replace hm := hm.2 hb
  refine wexit (by rfl) ?_
  exact ⟨ρ, _, x_151, x_152, x_153, x_154, x_158, a155, c156, a159, c160, hm, hS.sl _, hO, h157, h161⟩
 rintro a w298 ⟨ρ, χ297, x_135, x_136, x_137, x_138, x_142, a139, c140, a143, c144, hm, hS, hO, h141, h145⟩
 unfold VC14_J1 at hm
 refine rM T hS ⟨[(2, Pt 3 0), (3, I 0)], [(3, (33, [I x_135, I x_136, I x_137, Sl a139 x_138 c140, Sl a143 x_142 c144]))]⟩ fun ρ a w146 χ147 hS hE hr => ?_
 replace hO := hO.mv hE rfl rfl
 replace h141 := h141.mv hE rfl
 replace h145 := h145.mv hE rfl
 clear hE hr
 refine wret ?_
 exact fin T hS hO (fun c => c) rfl (r := [.agg #[.int .i64 x_135, .int .i64 x_136, .int .i64 x_137, .slice a139 x_138.length c140, .slice a143 x_142.length c144], .int .i64 0]) kr (fun χ' hM hC => ⟨((⟨(⟨x_135, x_136, x_137, x_138⟩ : Api_Object), x_142⟩ : Histtext_Case), 0), hm, a139, c140, a143, c144, rfl, h141.m0 hM, h145.m0 hM⟩)
theorem C14 (k12 : S12) (k18 : S18) (k32 : S32) (k33 : S33) (k9 : S9) (v : ∀ (c_ : Histtext_Case), prePa c_ → VC14 c_ (fun r => r = shrink_Part c_)) : S14 := by
 intro w χ c_ a1 c1 a2 c2   hp h1 h2
 refine (W14 k12 k18 k32 k33 k9 w χ c_ a1 c1 a2 c2   _ (v c_ hp) h1 h2).mono ?_
 rintro _ _ _ _ ⟨r, rfl, h⟩
 exact h
theorem W21 (w0 : World) (χ0 : Nat → Nat) (Q : Api_Object → Prop) (hm : VC21 Q) :
  Ret Try.prog 21 #[] xnone w0 χ0 (fun w χ' v => ∃ r, Q r ∧ ∃ (ra1 : Option Addr) (rc1 : Nat), v = .agg #[.int .i64 r.States, .int .i64 r.Kinds, .int .i64 r.Init, .slice ra1 r.Rows.length rc1] ∧ RS tApi_Row w χ' ra1 r.Rows rc1) := by
 unfold VC21 at hm
 refine enter Try.func21 rfl (vals := []) kr ?_
 intro ρ a hS hO hM
 clear hM
 refine rM T hS ⟨[(0, Pt 1 0)], [(1, (24, [I 0, I 0, I 0, V (.slice none 0 0)]))]⟩ fun ρ a w107 χ108 hS hE hr => ?_
 replace hO := hO.mv hE rfl rfl
 clear hE hr
 refine regO ?_
 refine oP T hS 4 ⟨[(0, Pt 1 0), (1, V (.agg #[.int .i64 0, .int .i64 0, .int .i64 1, .int .i64 0])), (2, V (.agg #[.int .i64 0, .int .i64 1, .int .i64 0, .int .i64 0])), (3, V (.agg #[.int .i64 1, .int .i64 0, .int .i64 1, .int .i64 0])), (4, V (.agg #[.int .i64 1, .int .i64 1, .int .i64 1, .int .i64 1]))], [(1, (24, [I 0, I 0, I 0, V (.slice none 0 0)]))]⟩ fun a hS => ?_
 refine op1 (lit (E := 76) (col := 0) (T := tApi_Row) (vals := [.agg #[.int .i64 0, .int .i64 0, .int .i64 1, .int .i64 0], .agg #[.int .i64 0, .int .i64 1, .int .i64 0, .int .i64 0], .agg #[.int .i64 1, .int .i64 0, .int .i64 1, .int .i64 0], .agg #[.int .i64 1, .int .i64 1, .int .i64 1, .int .i64 1]]) (ys := [(⟨0, 0, 1, 0⟩ : Api_Row), (⟨0, 1, 0, 0⟩ : Api_Row), (⟨1, 0, 1, 0⟩ : Api_Row), (⟨1, 1, 1, 1⟩ : Api_Row)]) T hS kr kr kr kr (by exact ⟨rfl, rfl, rfl, rfl, trivial⟩) rfl kr kr kr kr ?_)
 intro b101 a w102 χ103 hE h104 hN hS
 clear hN
 replace hO := hO.mv hE rfl rfl
 replace h104 := h104.rs0
 refine eM T hS ⟨[(0, Pt 1 0)], [(1, (24, [I 2, I 2, I 0, Sl (some ⟨b101, 0, none⟩) [(⟨0, 0, 1, 0⟩ : Api_Row), (⟨0, 1, 0, 0⟩ : Api_Row), (⟨1, 0, 1, 0⟩ : Api_Row), (⟨1, 1, 1, 1⟩ : Api_Row)] 4]))]⟩ fun ρ a w105 χ106 hS hE hr => ?_
 replace hO := hO.mv hE rfl rfl
 replace h104 := h104.mv hE rfl
 clear hE hr
 refine wret ?_
 exact fin T hS hO (fun c => c) rfl (r := [.agg #[.int .i64 2, .int .i64 2, .int .i64 0, .slice (some ⟨b101, 0, none⟩) [(⟨0, 0, 1, 0⟩ : Api_Row), (⟨0, 1, 0, 0⟩ : Api_Row), (⟨1, 0, 1, 0⟩ : Api_Row), (⟨1, 1, 1, 1⟩ : Api_Row)].length 4]]) kr (fun χ' hM hC => ⟨(⟨2, 2, 0, [(⟨0, 0, 1, 0⟩ : Api_Row), (⟨0, 1, 0, 0⟩ : Api_Row), (⟨1, 0, 1, 0⟩ : Api_Row), (⟨1, 1, 1, 1⟩ : Api_Row)]⟩ : Api_Object), hm, (some ⟨b101, 0, none⟩), 4, rfl, h104.m0 hM⟩)
theorem C21 (v : ∀ (_ : Unit), VC21 (fun r => r = law41_flag)) : S21 := by
 intro w χ     
 refine (W21 w χ     _ (v ())).mono ?_
 rintro _ _ _ _ ⟨r, rfl, h⟩
 exact h
theorem W22 (w0 : World) (χ0 : Nat → Nat) (Q : (List Api_Event) → Prop) (hm : VC22 Q) :
  Ret Try.prog 22 #[] xnone w0 χ0 (fun w χ' v => ∃ r, Q r ∧ ∃ (ra1 : Option Addr) (rc1 : Nat), v = .slice ra1 r.length rc1 ∧ RS tApi_Event w χ' ra1 r rc1) := by
 unfold VC22 at hm
 refine enter Try.func22 rfl (vals := []) kr ?_
 intro ρ a hS hO hM
 clear hM
 refine rP T hS ⟨[], []⟩ fun a hS => ?_
 refine regO ?_
 refine oP T hS 5 ⟨[(1, V (.agg #[.int .i64 1, .int .i64 3, .int .i64 1])), (2, V (.agg #[.int .i64 1, .int .i64 1, .int .i64 1])), (3, V (.agg #[.int .i64 2, .int .i64 1, .int .i64 1])), (4, V (.agg #[.int .i64 1, .int .i64 2, .int .i64 0])), (5, V (.agg #[.int .i64 2, .int .i64 2, .int .i64 0]))], []⟩ fun a hS => ?_
 refine op1 (lit (E := 54) (col := 0) (T := tApi_Event) (vals := [.agg #[.int .i64 1, .int .i64 3, .int .i64 1], .agg #[.int .i64 1, .int .i64 1, .int .i64 1], .agg #[.int .i64 2, .int .i64 1, .int .i64 1], .agg #[.int .i64 1, .int .i64 2, .int .i64 0], .agg #[.int .i64 2, .int .i64 2, .int .i64 0]]) (ys := [(⟨1, 3, 1⟩ : Api_Event), (⟨1, 1, 1⟩ : Api_Event), (⟨2, 1, 1⟩ : Api_Event), (⟨1, 2, 0⟩ : Api_Event), (⟨2, 2, 0⟩ : Api_Event)]) T hS kr kr kr kr (by exact ⟨rfl, rfl, rfl, rfl, rfl, trivial⟩) rfl kr kr kr kr ?_)
 intro b101 a w102 χ103 hE h104 hN hS
 clear hN
 replace hO := hO.mv hE rfl rfl
 replace h104 := h104.rs0
 refine eP T hS ⟨[(0, Sl (some ⟨b101, 0, none⟩) [(⟨1, 3, 1⟩ : Api_Event), (⟨1, 1, 1⟩ : Api_Event), (⟨2, 1, 1⟩ : Api_Event), (⟨1, 2, 0⟩ : Api_Event), (⟨2, 2, 0⟩ : Api_Event)] 5)], []⟩ fun a hS => ?_
 refine wret ?_
 exact fin T hS hO (fun c => c) rfl (r := [.slice (some ⟨b101, 0, none⟩) [(⟨1, 3, 1⟩ : Api_Event), (⟨1, 1, 1⟩ : Api_Event), (⟨2, 1, 1⟩ : Api_Event), (⟨1, 2, 0⟩ : Api_Event), (⟨2, 2, 0⟩ : Api_Event)].length 5]) kr (fun χ' hM hC => ⟨[(⟨1, 3, 1⟩ : Api_Event), (⟨1, 1, 1⟩ : Api_Event), (⟨2, 1, 1⟩ : Api_Event), (⟨1, 2, 0⟩ : Api_Event), (⟨2, 2, 0⟩ : Api_Event)], hm, (some ⟨b101, 0, none⟩), 5, rfl, h104.m0 hM⟩)
theorem C22 (v : ∀ (_ : Unit), VC22 (fun r => r = law41_bad)) : S22 := by
 intro w χ     
 refine (W22 w χ     _ (v ())).mono ?_
 rintro _ _ _ _ ⟨r, rfl, h⟩
 exact h
end Go.Proofs.Ytojdelnnjhbgbaa
