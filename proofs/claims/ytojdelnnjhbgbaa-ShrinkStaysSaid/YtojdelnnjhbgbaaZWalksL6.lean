/- Walks: each function returns what its condition asks. Condition: the contracts of its callees, handed in. -/
import Derived.Test.YtojdelnnjhbgbaaZWalksS
set_option linter.all false
namespace Go.Proofs.Ytojdelnnjhbgbaa
open Go Go.Sv
set_option maxHeartbeats 1000000
theorem W6 (k10 : S10) (k14 : S14) (k7 : S7) (k8 : S8) (w0 : World) (χ0 : Nat → Nat) (o_ : Api_Object) (l_ : List Api_Event) (a1 : Option Addr) (c1 : Nat) (a2 : Option Addr) (c2 : Nat) (Q : Bool → Prop) (hm : VC6 o_ l_ Q) (h1 : RS tApi_Row w0 χ0 a1 o_.Rows c1) (h2 : RS tApi_Event w0 χ0 a2 l_ c2) :
  Ret Try.prog 6 #[.agg #[.int .i64 o_.States, .int .i64 o_.Kinds, .int .i64 o_.Init, .slice a1 o_.Rows.length c1], .slice a2 l_.length c2] xnone w0 χ0 (fun w χ' v => ∃ r, Q r ∧ v = .bool r) := by
 unfold VC6 at hm
 replace hm := hm (h1.sm kr)
 replace hm := hm (h2.sm kr)
 refine enter Try.func6 rfl (vals := [.agg #[.int .i64 o_.States, .int .i64 o_.Kinds, .int .i64 o_.Init, .slice a1 o_.Rows.length c1], .slice a2 l_.length c2]) kr ?_
 intro ρ a hS hO hM
 replace h1 := h1.m0 hM
 replace h2 := h2.m0 hM
 clear hM
 refine rM T hS ⟨[(1, Sl a2 l_ c2), (2, Pt 3 0)], [(3, (24, [I o_.States, I o_.Kinds, I o_.Init, Sl a1 o_.Rows c1]))]⟩ fun ρ a w171 χ172 hS hE hr => ?_
 replace hO := hO.mv hE rfl rfl
 replace h1 := h1.mv hE rfl
 replace h2 := h2.mv hE rfl
 clear hE hr
 refine wseq ?_
 refine regO ?_
 refine oP T hS 2 ⟨[(1, Sl a2 l_ c2), (2, Pt 3 0), (13, V (.agg #[.int .i64 o_.States, .int .i64 o_.Kinds, .int .i64 o_.Init, .slice a1 o_.Rows.length c1])), (14, Sl a2 l_ c2)], [(3, (24, [I o_.States, I o_.Kinds, I o_.Init, Sl a1 o_.Rows c1]))]⟩ fun a hS => ?_
 refine op1 (call hS kr kr hb7 kr (fun _ _ => rfl) (k7 _ _ o_ l_ a1 c1 a2 c2 h1 h2) ?_)
 intro v101 a w102 χ103 hE hp hS
 replace hO := hO.mv hE rfl rfl
 replace h1 := h1.mv hE rfl
 replace h2 := h2.mv hE rfl
 obtain ⟨r104, hr⟩ : ∃ r, law41_few o_ l_ = r := ⟨_, rfl⟩
 replace hm := hm r104 hr
 rw [hr] at hp
 clear hr
 subst hp
 refine eP T hS ⟨[(1, Sl a2 l_ c2), (2, Pt 3 0), (16, B (!r104))], [(3, (24, [I o_.States, I o_.Kinds, I o_.Init, Sl a1 o_.Rows c1]))]⟩ fun a hS => ?_
 refine wcond hS (b := (!r104)) kr (fun hb => ?_) (fun hb => ?_)
 ·replace hm := hm.1 hb
  refine regO ?_
  refine op1 (call hS kr kr hb8 kr (fun _ _ => rfl) (k8 _ _) ?_)
  intro v105 a w106 χ107 hE hp hS
  replace hO := hO.mv hE rfl rfl
  replace h1 := h1.mv hE rfl
  replace h2 := h2.mv hE rfl
  obtain ⟨r108, hr⟩ : ∃ r, law41_awake = r := ⟨_, rfl⟩
  replace hm := hm r108 hr
  rw [hr] at hp
  clear hr
  subst hp
  refine eP T hS ⟨[(4, B r108)], []⟩ fun a hS => ?_
  refine wret ?_
  exact fin T hS hO (fun c => c) rfl (r := [.bool r108]) kr (fun χ' hM hC => ⟨r108, hm, rfl⟩)
 replace hm := hm.2 hb
 refine wskip ?_
 refine regO ?_
 refine oP T hS 3 ⟨[(1, Sl a2 l_ c2), (2, Pt 3 0), (21, V (.agg #[.int .i64 o_.States, .int .i64 o_.Kinds, .int .i64 o_.Init, .slice a1 o_.Rows.length c1, .slice a2 l_.length c2]))], [(3, (24, [I o_.States, I o_.Kinds, I o_.Init, Sl a1 o_.Rows c1]))]⟩ fun a hS => ?_
 obtain ⟨hq, hm⟩ := hm
 refine op1 (call hS kr kr hb14 kr (fun _ _ => rfl) (k14 _ _ (⟨o_, l_⟩ : Histtext_Case) a1 c1 a2 c2 hq h1 h2) ?_)
 intro v109 a w110 χ111 hE hp hS
 replace hO := hO.mv hE rfl rfl
 replace h1 := h1.mv hE rfl
 replace h2 := h2.mv hE rfl
 obtain ⟨a113, c114, a116, c117, hp, h115, h118⟩ := hp
 obtain ⟨r112, hr⟩ : ∃ r, shrink_Part (⟨o_, l_⟩ : Histtext_Case) = r := ⟨_, rfl⟩
 replace hm := hm r112 hr
 rw [hr] at hp h115 h118
 clear hr
 subst hp
 replace hm := hm (h115.sm kr)
 replace hm := hm (h118.sm kr)
 refine eM T hS ⟨[(1, Sl a2 l_ c2), (2, Pt 3 0), (5, Pt 6 0), (6, I r112.2)], [(3, (24, [I o_.States, I o_.Kinds, I o_.Init, Sl a1 o_.Rows c1])), (6, (33, [I r112.1.Object.States, I r112.1.Object.Kinds, I r112.1.Object.Init, Sl a113 r112.1.Object.Rows c114, Sl a116 r112.1.Events c117]))]⟩ fun ρ a w169 χ170 hS hE hr => ?_
 replace hO := hO.mv hE rfl rfl
 replace h1 := h1.mv hE rfl
 replace h2 := h2.mv hE rfl
 replace h115 := h115.mv hE rfl
 replace h118 := h118.mv hE rfl
 clear hE hr
 refine wseq (rP T hS ⟨[(1, Sl a2 l_ c2), (2, Pt 3 0), (5, Pt 6 0), (26, B (r112.2 != 0))], [(3, (24, [I o_.States, I o_.Kinds, I o_.Init, Sl a1 o_.Rows c1])), (6, (33, [I r112.1.Object.States, I r112.1.Object.Kinds, I r112.1.Object.Init, Sl a113 r112.1.Object.Rows c114, Sl a116 r112.1.Events c117]))]⟩ fun a hS => ?_)
 refine wcond hS (b := (r112.2 != 0)) kr (fun hb => ?_) (fun hb => ?_)
 ·replace hm := hm.1 hb
  refine regO ?_
  refine oP T hS 5 ⟨[(31, B ((lN r112.1.Events) == 0))], []⟩ fun a hS => ?_
  rcases Bool.eq_false_or_eq_true ((lN r112.1.Events) == 0) with hb | hb
  ·replace hS := hS.lit (t := 31) kr hb
   replace hm := hm.1 hb
   refine op1 (call hS kr kr hb8 kr (fun _ _ => rfl) (k8 _ _) ?_)
   intro v119 a w120 χ121 hE hp hS
   replace hO := hO.mv hE rfl rfl
   obtain ⟨r122, hr⟩ : ∃ r, law41_awake = r := ⟨_, rfl⟩
   replace hm := hm r122 hr
   rw [hr] at hp
   clear hr
   subst hp
   refine eP T hS ⟨[(4, B r122)], []⟩ fun a hS => ?_
   refine wret ?_
   exact fin T hS hO (fun c => c) rfl (r := [.bool r122]) kr (fun χ' hM hC => ⟨r122, hm, rfl⟩)
  replace hS := hS.lit (t := 31) kr hb
  replace hm := hm.2 hb
  refine eP T hS ⟨[(4, B false)], []⟩ fun a hS => ?_
  refine wret ?_
  exact fin T hS hO (fun c => c) rfl (r := [.bool false]) kr (fun χ' hM hC => ⟨false, hm, rfl⟩)
 replace hm := hm.2 hb
 refine wskip ?_
 refine regO ?_
 refine oP T hS 1 ⟨[(1, Sl a2 l_ c2), (2, Pt 3 0), (5, Pt 6 0), (35, V (.agg #[.int .i64 r112.1.Object.States, .int .i64 r112.1.Object.Kinds, .int .i64 r112.1.Object.Init, .slice a113 r112.1.Object.Rows.length c114, .slice a116 r112.1.Events.length c117]))], [(3, (24, [I o_.States, I o_.Kinds, I o_.Init, Sl a1 o_.Rows c1])), (6, (33, [I r112.1.Object.States, I r112.1.Object.Kinds, I r112.1.Object.Init, Sl a113 r112.1.Object.Rows c114, Sl a116 r112.1.Events c117]))]⟩ fun a hS => ?_
 obtain ⟨hq, hm⟩ := hm
 refine op1 (call hS kr kr hb10 kr (fun _ _ => rfl) (k10 _ _ r112.1 a113 c114 a116 c117 hq h115 h118) ?_)
 intro v123 a w124 χ125 hE hp hS
 replace hO := hO.mv hE rfl rfl
 replace h1 := h1.mv hE rfl
 replace h2 := h2.mv hE rfl
 replace h115 := h115.mv hE rfl
 replace h118 := h118.mv hE rfl
 obtain ⟨r126, hr⟩ : ∃ r, shrink_Lin r112.1 = r := ⟨_, rfl⟩
 replace hm := hm r126 hr
 rw [hr] at hp
 clear hr
 subst hp
 refine eP T hS ⟨[(1, Sl a2 l_ c2), (2, Pt 3 0), (5, Pt 6 0), (7, B r126.1), (8, I r126.2)], [(3, (24, [I o_.States, I o_.Kinds, I o_.Init, Sl a1 o_.Rows c1])), (6, (33, [I r112.1.Object.States, I r112.1.Object.Kinds, I r112.1.Object.Init, Sl a113 r112.1.Object.Rows c114, Sl a116 r112.1.Events c117]))]⟩ fun a hS => ?_
 refine wseq ?_
 refine rP T hS ⟨[(1, Sl a2 l_ c2), (2, Pt 3 0), (5, Pt 6 0), (49, B ((r126.1 || (r126.2 != 0)) || ((lN r112.1.Events) == 0)))], [(3, (24, [I o_.States, I o_.Kinds, I o_.Init, Sl a1 o_.Rows c1])), (6, (33, [I r112.1.Object.States, I r112.1.Object.Kinds, I r112.1.Object.Init, Sl a113 r112.1.Object.Rows c114, Sl a116 r112.1.Events c117]))]⟩ (sp := [40, 44]) fun a hS => ?_
 refine wcond hS (b := ((r126.1 || (r126.2 != 0)) || ((lN r112.1.Events) == 0))) kr (fun hb => ?_) (fun hb => ?_)
 ·replace hm := hm.1 hb
  refine rP T hS ⟨[(4, B false)], []⟩ fun a hS => ?_
  refine wret ?_
  exact fin T hS hO (fun c => c) rfl (r := [.bool false]) kr (fun χ' hM hC => ⟨false, hm, rfl⟩)
 replace hm := hm.2 hb
 refine wskip ?_
 refine rP T hS ⟨[(1, Sl a2 l_ c2), (2, Pt 3 0), (5, Pt 6 0), (9, I 0)], [(3, (24, [I o_.States, I o_.Kinds, I o_.Init, Sl a1 o_.Rows c1])), (6, (33, [I r112.1.Object.States, I r112.1.Object.Kinds, I r112.1.Object.Init, Sl a113 r112.1.Object.Rows c114, Sl a116 r112.1.Events c117]))]⟩ fun a hS => ?_
 refine wcut (fun a w => ∃ (ρ : Nat → Nat) (χ : Nat → Nat) (k_127 : Int), VC6_J1 o_ Q r112 k_127 ∧ St Try.f6.ntmps ⟨[(2, Pt 3 0), (5, Pt 6 0), (9, I k_127)], [(3, (24, [I o_.States, I o_.Kinds, I o_.Init, Sl a1 o_.Rows c1])), (6, (33, [I r112.1.Object.States, I r112.1.Object.Kinds, I r112.1.Object.Init, Sl a113 r112.1.Object.Rows c114, Sl a116 r112.1.Events c117]))]⟩ ρ a w χ ∧ Old w0 χ0 w χ ∧ RS tApi_Row w χ a1 o_.Rows c1 ∧ RS tApi_Row w χ a113 r112.1.Object.Rows c114 ∧ RS tApi_Event w χ a116 r112.1.Events c117) ?_ ?_
 ·refine rP T hS ⟨[(1, Sl a2 l_ c2), (2, Pt 3 0), (5, Pt 6 0), (9, I 0), (10, I 0)], [(3, (24, [I o_.States, I o_.Kinds, I o_.Init, Sl a1 o_.Rows c1])), (6, (33, [I r112.1.Object.States, I r112.1.Object.Kinds, I r112.1.Object.Init, Sl a113 r112.1.Object.Rows c114, Sl a116 r112.1.Events c117]))]⟩ fun a hS => ?_
  refine wblock ?_
  obtain ⟨I1, μ1, hm0, hm⟩ := hm
  refine wloop (σ := Int × Int) (fun s a w => ∃ (ρ : Nat → Nat) (χ : Nat → Nat), I1 s.1 s.2 ∧ St Try.f6.ntmps ⟨[(1, Sl a2 l_ c2), (2, Pt 3 0), (5, Pt 6 0), (9, I s.1), (10, I s.2)], [(3, (24, [I o_.States, I o_.Kinds, I o_.Init, Sl a1 o_.Rows c1])), (6, (33, [I r112.1.Object.States, I r112.1.Object.Kinds, I r112.1.Object.Init, Sl a113 r112.1.Object.Rows c114, Sl a116 r112.1.Events c117]))]⟩ ρ a w χ ∧ Old w0 χ0 w χ ∧ RS tApi_Event w χ a2 l_ c2 ∧ RS tApi_Row w χ a1 o_.Rows c1 ∧ RS tApi_Row w χ a113 r112.1.Object.Rows c114 ∧ RS tApi_Event w χ a116 r112.1.Events c117) (fun s => μ1 s.1 s.2) (⟨0, 0⟩) ?_ ?_
  ·exact ⟨ρ, _, hm0, hS.sl _, hO, h2, h1, h115, h118⟩
  rintro ⟨k_145, i_146⟩ a w166 ⟨ρ, χ165, hI, hS, hO, h144, h147, h148, h149⟩
  replace hm := hm k_145 i_146 hI
  clear hI hm0
  refine wseq ?_
  refine rP T hS ⟨[(1, Sl a2 l_ c2), (2, Pt 3 0), (5, Pt 6 0), (9, I k_145), (10, I i_146), (60, B ((decide (i_146 < (lN l_))) && (decide (k_145 < (lN r112.1.Events)))))], [(3, (24, [I o_.States, I o_.Kinds, I o_.Init, Sl a1 o_.Rows c1])), (6, (33, [I r112.1.Object.States, I r112.1.Object.Kinds, I r112.1.Object.Init, Sl a113 r112.1.Object.Rows c114, Sl a116 r112.1.Events c117]))]⟩ (sp := [54]) fun a hS => ?_
  refine wcond hS (b := ((decide (i_146 < (lN l_))) && (decide (k_145 < (lN r112.1.Events))))) kr (fun hb => ?_) (fun hb => ?_)
  ·replace hm := hm.1 hb
   refine wskip ?_
   refine wcut (fun a w => ∃ (ρ : Nat → Nat) (χ : Nat → Nat) (k_151 : Int), VC6_J2 I1 μ1 k_145 i_146 k_151 ∧ St Try.f6.ntmps ⟨[(1, Sl a2 l_ c2), (2, Pt 3 0), (5, Pt 6 0), (9, I k_151), (10, I i_146)], [(3, (24, [I o_.States, I o_.Kinds, I o_.Init, Sl a1 o_.Rows c1])), (6, (33, [I r112.1.Object.States, I r112.1.Object.Kinds, I r112.1.Object.Init, Sl a113 r112.1.Object.Rows c114, Sl a116 r112.1.Events c117]))]⟩ ρ a w χ ∧ Old w0 χ0 w χ ∧ RS tApi_Event w χ a2 l_ c2 ∧ RS tApi_Row w χ a1 o_.Rows c1 ∧ RS tApi_Row w χ a113 r112.1.Object.Rows c114 ∧ RS tApi_Event w χ a116 r112.1.Events c117) ?_ ?_
   ·refine wblock ?_
    refine drawnSX [3, 6] mixed hS ?_
    intro w155 χ156 hS hE hD hH
    replace hO := hO.mv hE rfl rfl
    replace h144 := h144.mv hE rfl
    replace h147 := h147.mv hE rfl
    replace h148 := h148.mv hE rfl
    replace h149 := h149.mv hE rfl
    refine tk T [0, 1, 4, 6, 5] [3, 6] hS hH #[true, true, false, false, true, true, true, false, false, false] 5 ⟨[(1, Sl a2 l_ c2), (2, Pt 3 0), (5, Pt 6 0), (9, I k_145), (10, I i_146), (63, Sl a2 l_ c2), (64, I i_146), (68, Sl a116 r112.1.Events c117), (69, I k_145)], [(3, (24, [I o_.States, I o_.Kinds, I o_.Init, Sl a1 o_.Rows c1])), (6, (33, [I r112.1.Object.States, I r112.1.Object.Kinds, I r112.1.Object.Init, Sl a113 r112.1.Object.Rows c114, Sl a116 r112.1.Events c117]))]⟩ fun a hS => ?_
    obtain ⟨hq, hm⟩ := hm
    refine dindex (e := 54) (k := .i64) T 2 hS kr kr kr (by rfl) kr hH kr kr h144 kr kr hq.1 hq.2 ?_
    intro A157 a h158 hS
    have h158b := h158.here
    refine dloadA T 3 hS kr kr kr (by rfl) kr hH kr h158 h158b kr kr ?_
    intro v159 a hv hS
    subst hv
    obtain ⟨hq, hm⟩ := hm
    refine dindex (e := 54) (k := .i64) T 7 hS kr kr kr (by rfl) kr hH kr kr h149 kr kr hq.1 hq.2 ?_
    intro A160 a h161 hS
    have h161b := h161.here
    refine dloadA T 8 hS kr kr kr (by rfl) kr hH kr h161 h161b kr kr ?_
    intro v162 a hv hS
    subst hv
    refine dstructEq (op := .eql) (xs := [.int .i64 ((gi l_ i_146).What), .int .i64 ((gi l_ i_146).Prc), .int .i64 ((gi l_ i_146).N)]) (ys := [.int .i64 ((gi r112.1.Events k_145).What), .int .i64 ((gi r112.1.Events k_145).Prc), .int .i64 ((gi r112.1.Events k_145).N)]) (r := (((gi l_ i_146).What) == ((gi r112.1.Events k_145).What) && (((gi l_ i_146).Prc) == ((gi r112.1.Events k_145).Prc) && (((gi l_ i_146).N) == ((gi r112.1.Events k_145).N) && true)))) (b := (((gi l_ i_146).What) == ((gi r112.1.Events k_145).What) && (((gi l_ i_146).Prc) == ((gi r112.1.Events k_145).Prc) && (((gi l_ i_146).N) == ((gi r112.1.Events k_145).N) && true)))) 9 T hS kr kr kr (by rfl) kr hH kr kr kr kr kr kr ?_
    intro a hS
    refine drawnDone kr ?_
    clear hD hH
    replace hS := hS.sl ⟨[(1, Sl a2 l_ c2), (2, Pt 3 0), (5, Pt 6 0), (9, I k_145), (10, I i_146), (72, B (((gi l_ i_146).What) == ((gi r112.1.Events k_145).What) && (((gi l_ i_146).Prc) == ((gi r112.1.Events k_145).Prc) && (((gi l_ i_146).N) == ((gi r112.1.Events k_145).N) && true))))], [(3, (24, [I o_.States, I o_.Kinds, I o_.Init, Sl a1 o_.Rows c1])), (6, (33, [I r112.1.Object.States, I r112.1.Object.Kinds, I r112.1.Object.Init, Sl a113 r112.1.Object.Rows c114, Sl a116 r112.1.Events c117]))]⟩
    refine wcond hS (b := (((gi l_ i_146).What) == ((gi r112.1.Events k_145).What) && (((gi l_ i_146).Prc) == ((gi r112.1.Events k_145).Prc) && (((gi l_ i_146).N) == ((gi r112.1.Events k_145).N) && true)))) kr (fun hb => ?_) (fun hb => ?_)
    ·replace hm := hm.1 hb
     refine region (eP T hS ⟨[(1, Sl a2 l_ c2), (2, Pt 3 0), (5, Pt 6 0), (9, I (wR (k_145 + 1))), (10, I i_146)], [(3, (24, [I o_.States, I o_.Kinds, I o_.Init, Sl a1 o_.Rows c1])), (6, (33, [I r112.1.Object.States, I r112.1.Object.Kinds, I r112.1.Object.Init, Sl a113 r112.1.Object.Rows c114, Sl a116 r112.1.Events c117]))]⟩ fun a hS => ?_)
     exact ⟨ρ, _, wR (k_145 + 1), hm, hS.sl _, hO, h144, h147, h148, h149⟩
    replace hm := hm.2 hb
    refine wskip ?_
    exact ⟨ρ, _, k_145, hm, hS.sl _, hO, h144, h147, h148, h149⟩
   rintro a w164 ⟨ρ, χ163, k_151, hm, hS, hO, h150, h152, h153, h154⟩
   unfold VC6_J2 at hm
   refine region (eP T hS ⟨[(1, Sl a2 l_ c2), (2, Pt 3 0), (5, Pt 6 0), (9, I k_151), (10, I (wR (i_146 + 1)))], [(3, (24, [I o_.States, I o_.Kinds, I o_.Init, Sl a1 o_.Rows c1])), (6, (33, [I r112.1.Object.States, I r112.1.Object.Kinds, I r112.1.Object.Init, Sl a113 r112.1.Object.Rows c114, Sl a116 r112.1.Events c117]))]⟩ fun a hS => ?_)
   exact ⟨⟨k_151, wR (i_146 + 1)⟩, ⟨ρ, _, hm.1, hS.sl _, hO, h150, h152, h153, h154⟩, hm.2⟩
  replace hm := hm.2 hb
  refine wexit (by rfl) ?_
  exact ⟨ρ, _, k_145, hm, hS.sl _, hO, h147, h148, h149⟩
 rintro a w168 ⟨ρ, χ167, k_127, hm, hS, hO, h128, h129, h130⟩
 unfold VC6_J1 at hm
 refine wseq (rP T hS ⟨[(2, Pt 3 0), (5, Pt 6 0), (79, B (k_127 != (lN r112.1.Events)))], [(3, (24, [I o_.States, I o_.Kinds, I o_.Init, Sl a1 o_.Rows c1])), (6, (33, [I r112.1.Object.States, I r112.1.Object.Kinds, I r112.1.Object.Init, Sl a113 r112.1.Object.Rows c114, Sl a116 r112.1.Events c117]))]⟩ fun a hS => ?_)
 refine wcond hS (b := (k_127 != (lN r112.1.Events))) kr (fun hb => ?_) (fun hb => ?_)
 ·replace hm := hm.1 hb
  refine rP T hS ⟨[(4, B false)], []⟩ fun a hS => ?_
  refine wret ?_
  exact fin T hS hO (fun c => c) rfl (r := [.bool false]) kr (fun χ' hM hC => ⟨false, hm, rfl⟩)
 replace hm := hm.2 hb
 refine wskip ?_
 refine drawnSX [3, 6] mixed hS ?_
 intro w131 χ132 hS hE hD hH
 replace hO := hO.mv hE rfl rfl
 replace h128 := h128.mv hE rfl
 replace h129 := h129.mv hE rfl
 replace h130 := h130.mv hE rfl
 refine tk T [0, 1, 3, 2, 4, 5, 6] [3, 6] hS hH #[true, true, true, true, true, true, true, false, false, false, false, false, false, false, false] 8 ⟨[(81, V (.agg #[.int .i64 o_.States, .int .i64 o_.Kinds, .int .i64 o_.Init, .slice a1 o_.Rows.length c1])), (83, Sl a116 r112.1.Events c117), (87, I (wR ((lN r112.1.Events) - 1)))], [(3, (24, [I o_.States, I o_.Kinds, I o_.Init, Sl a1 o_.Rows c1])), (6, (33, [I r112.1.Object.States, I r112.1.Object.Kinds, I r112.1.Object.Init, Sl a113 r112.1.Object.Rows c114, Sl a116 r112.1.Events c117]))]⟩ fun a hS => ?_
 obtain ⟨hq, hm⟩ := hm
 refine dslice0 (E := 54) (kh := .i64) T 7 hS kr kr kr (by rfl) kr hH kr kr h130 kr kr hq.1 hq.2 ?_
 intro a133 c134 a h135 hS
 refine tk T [8] [3, 6] hS hH #[true, true, true, true, true, true, true, true, true, false, false, false, false, false, false] 6 ⟨[(89, V (.agg #[.int .i64 o_.States, .int .i64 o_.Kinds, .int .i64 o_.Init, .slice a1 o_.Rows.length c1, .slice a133 (r112.1.Events.take (wR ((lN r112.1.Events) - 1)).toNat).length c134]))], [(3, (24, [I o_.States, I o_.Kinds, I o_.Init, Sl a1 o_.Rows c1])), (6, (33, [I r112.1.Object.States, I r112.1.Object.Kinds, I r112.1.Object.Init, Sl a113 r112.1.Object.Rows c114, Sl a116 r112.1.Events c117]))]⟩ fun a hS => ?_
 obtain ⟨hq, hm⟩ := hm
 refine only 9 kr (by rfl) (call hS kr kr hb10 kr (fun _ _ => rfl) (k10 _ _ (⟨o_, r112.1.Events.take (wR ((lN r112.1.Events) - 1)).toNat⟩ : Histtext_Case) a1 c1 a133 c134 hq h128 h135) ?_)
 intro v136 a w137 χ138 hE hp hS
 replace hO := hO.mv hE rfl rfl
 replace hD := hD.ev hE rfl
 replace h128 := h128.mv hE rfl
 replace h129 := h129.mv hE rfl
 replace h130 := h130.mv hE rfl
 replace h135 := h135.mv hE rfl
 obtain ⟨r139, hr⟩ : ∃ r, shrink_Lin (⟨o_, r112.1.Events.take (wR ((lN r112.1.Events) - 1)).toNat⟩ : Histtext_Case) = r := ⟨_, rfl⟩
 replace hm := hm r139 hr
 rw [hr] at hp
 clear hr
 subst hp
 replace hS := hS.sl ⟨[(89, V (.agg #[.int .i64 o_.States, .int .i64 o_.Kinds, .int .i64 o_.Init, .slice a1 o_.Rows.length c1, .slice a133 (r112.1.Events.take (wR ((lN r112.1.Events) - 1)).toNat).length c134])), (90, V (.tuple #[.bool r139.1, .int .i64 r139.2]))], [(3, (24, [I o_.States, I o_.Kinds, I o_.Init, Sl a1 o_.Rows c1])), (6, (33, [I r112.1.Object.States, I r112.1.Object.Kinds, I r112.1.Object.Init, Sl a113 r112.1.Object.Rows c114, Sl a116 r112.1.Events c117]))]⟩
 refine andH (Hold.of hS (bks := [3, 6]) kr hD) ?_
 intro hH
 refine tk T [10, 11, 12, 13, 14] [3, 6] hS hH #[true, true, true, true, true, true, true, true, true, true, true, true, true, true, true] 0 ⟨[(11, B r139.1), (12, I r139.2)], [(3, (24, [I o_.States, I o_.Kinds, I o_.Init, Sl a1 o_.Rows c1])), (6, (33, [I r112.1.Object.States, I r112.1.Object.Kinds, I r112.1.Object.Init, Sl a113 r112.1.Object.Rows c114, Sl a116 r112.1.Events c117]))]⟩ fun a hS => ?_
 refine drawnDone kr ?_
 clear hD hH
 replace hS := hS.sl ⟨[(11, B r139.1), (12, I r139.2)], []⟩
 refine regO ?_
 refine oP T hS 6 ⟨[(98, B (r139.1 && (r139.2 == 0)))], []⟩ (sp := [94]) fun a hS => ?_
 rcases Bool.eq_false_or_eq_true (r139.1 && (r139.2 == 0)) with hb | hb
 ·replace hS := hS.lit (t := 98) kr hb
  replace hm := hm.1 hb
  refine op1 (call hS kr kr hb8 kr (fun _ _ => rfl) (k8 _ _) ?_)
  intro v140 a w141 χ142 hE hp hS
  replace hO := hO.mv hE rfl rfl
  obtain ⟨r143, hr⟩ : ∃ r, law41_awake = r := ⟨_, rfl⟩
  replace hm := hm r143 hr
  rw [hr] at hp
  clear hr
  subst hp
  refine eP T hS ⟨[(4, B r143)], []⟩ fun a hS => ?_
  refine wret ?_
  exact fin T hS hO (fun c => c) rfl (r := [.bool r143]) kr (fun χ' hM hC => ⟨r143, hm, rfl⟩)
 replace hS := hS.lit (t := 98) kr hb
 replace hm := hm.2 hb
 refine eP T hS ⟨[(4, B false)], []⟩ fun a hS => ?_
 refine wret ?_
 exact fin T hS hO (fun c => c) rfl (r := [.bool false]) kr (fun χ' hM hC => ⟨false, hm, rfl⟩)
end Go.Proofs.Ytojdelnnjhbgbaa
