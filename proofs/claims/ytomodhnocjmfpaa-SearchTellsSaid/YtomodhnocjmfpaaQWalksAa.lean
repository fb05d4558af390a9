/- Walks: each function returns what its condition asks. Condition: the contracts of its callees, handed in. -/
import Derived.Test.YtomodhnocjmfpaaQWalksS
set_option linter.all false
namespace Go.Proofs.Ytomodhnocjmfpaa
open Go Go.Sv
set_option maxHeartbeats 1000000
/-- replevin/replevinlaw23.Few -/
theorem W6 (w0 : World) (χ0 : Nat → Nat) (o_ : Api_Object) (a1 : Option Addr) (c1 : Nat) (Q : Bool → Prop) (hm : VC6 o_ Q) (h1 : RS tApi_Row w0 χ0 a1 o_.Rows c1) :
  Ret Try.prog 6 #[.agg #[.int .i64 o_.States, .int .i64 o_.Kinds, .int .i64 o_.Init, .slice a1 o_.Rows.length c1]] xnone w0 χ0 (fun w χ' v => ∃ r, Q r ∧ v = .bool r) := by
 unfold VC6 at hm
 replace hm := hm (h1.sm kr)
 refine enter Try.func6 rfl (vals := [.agg #[.int .i64 o_.States, .int .i64 o_.Kinds, .int .i64 o_.Init, .slice a1 o_.Rows.length c1]]) kr ?_
 intro ρ a hS hO hM
 replace h1 := h1.m0 hM
 clear hM
 refine rM T hS ⟨[(1, Pt 2 0)], [(2, (24, [I o_.States, I o_.Kinds, I o_.Init, Sl a1 o_.Rows c1]))]⟩ fun ρ a w101 χ102 hS hE hr => ?_
 replace hO := hO.mv hE rfl rfl
 replace h1 := h1.mv hE rfl
 clear hE hr
 refine rP T hS ⟨[(2, B (decide (((o_.Rows.length : Nat) : Int) ≤ 300)))], []⟩ fun a hS => ?_
 refine wret ?_
 exact fin T hS hO (fun c => c) rfl (r := [.bool (decide (((o_.Rows.length : Nat) : Int) ≤ 300))]) kr (fun χ' hM hC => ⟨(decide (((o_.Rows.length : Nat) : Int) ≤ 300)), hm, rfl⟩)
theorem C6 (v : ∀ (o_ : Api_Object), VC6 o_ (fun r => r = law23_Few o_)) : S6 := by
 intro w χ o_ a1 c1   h1
 refine (W6 w χ o_ a1 c1   _ (v o_) h1).mono ?_
 rintro _ _ _ _ ⟨r, rfl, h⟩
 exact h
/-- replevin/object.within -/
theorem W46 (w0 : World) (χ0 : Nat → Nat) (n_ : Int) (top : Int) (Q : Bool → Prop) (hm : VC46 n_ top Q) :
  Ret Try.prog 46 #[.int .i64 n_, .int .i64 top] xnone w0 χ0 (fun w χ' v => ∃ r, Q r ∧ v = .bool r) := by
 unfold VC46 at hm
 refine enter Try.func46 rfl (vals := [.int .i64 n_, .int .i64 top]) kr ?_
 intro ρ a hS hO hM
 clear hM
 refine rP T hS ⟨[(0, I n_), (1, I top)], []⟩ fun a hS => ?_
 refine rP T hS ⟨[(4, B ((decide (n_ ≥ 0)) && (decide (n_ < top))))], []⟩ (sp := [7]) fun a hS => ?_
 refine wret ?_
 exact fin T hS hO (fun c => c) rfl (r := [.bool ((decide (n_ ≥ 0)) && (decide (n_ < top)))]) kr (fun χ' hM hC => ⟨((decide (n_ ≥ 0)) && (decide (n_ < top))), hm, rfl⟩)
theorem C46 (v : ∀ (n_ : Int) (top : Int), VC46 n_ top (fun r => r = object_within n_ top)) : S46 := by
 intro w χ n_ top    
 refine (W46 w χ n_ top    _ (v n_ top)).mono ?_
 rintro _ _ _ _ ⟨r, rfl, h⟩
 exact h
/-- cmp.Or[int] -/
theorem W61 (w0 : World) (χ0 : Nat → Nat) (vals : List Int) (a1 : Option Addr) (c1 : Nat) (Q : Int → Prop) (hm : VC61 vals Q) (h1 : RS tI w0 χ0 a1 vals c1) :
  Ret Try.prog 61 #[.slice a1 vals.length c1] xnone w0 χ0 (fun w χ' v => ∃ r, Q r ∧ v = .int .i64 r) := by
 unfold VC61 at hm
 replace hm := hm (h1.sm kr)
 refine enter Try.func61 rfl (vals := [.slice a1 vals.length c1]) kr ?_
 intro ρ a hS hO hM
 replace h1 := h1.m0 hM
 clear hM
 refine rP T hS ⟨[(0, Sl a1 vals c1)], []⟩ fun a hS => ?_
 refine rP T hS ⟨[(0, Sl a1 vals c1), (3, I 0)], []⟩ fun a hS => ?_
 refine wcut (fun a w => ∃ (ρ : Nat → Nat) (χ : Nat → Nat), VC61_J1 Q ∧ St Try.f61.ntmps ⟨[(3, I 0)], []⟩ ρ a w χ ∧ Old w0 χ0 w χ) ?_ ?_
 ·refine rP T hS ⟨[(3, I 0), (6, Sl a1 vals c1), (7, I ((vals.length : Nat) : Int)), (8, I 0)], []⟩ fun a hS => ?_
  refine wblock ?_
  obtain ⟨I1, μ1, hm0, hm⟩ := hm
  refine wloop (σ := Int) (fun s a w => ∃ (ρ : Nat → Nat) (χ : Nat → Nat), I1 s ∧ St Try.f61.ntmps ⟨[(3, I 0), (6, Sl a1 vals c1), (7, I ((vals.length : Nat) : Int)), (8, I s)], []⟩ ρ a w χ ∧ Old w0 χ0 w χ ∧ RS tI w χ a1 vals c1) (fun s => μ1 s) (0) ?_ ?_
  ·exact ⟨ρ, _, hm0, hS.sl _, hO, h1⟩
  ·rintro x_102 a w107 ⟨ρ, χ106, hI, hS, hO, h101⟩
   replace hm := hm x_102 hI
   clear hI hm0
   refine rP T hS ⟨[(3, I 0), (6, Sl a1 vals c1), (7, I ((vals.length : Nat) : Int)), (8, I x_102), (9, B (decide (x_102 < ((vals.length : Nat) : Int))))], []⟩ fun a hS => ?_
   refine wseq ?_
   refine wcond hS (b := decide (x_102 < ((vals.length : Nat) : Int))) kr (fun hb => ?_) (fun hb => ?_)
   ·replace hm := hm.1 hb
    refine wskip ?_
    refine wseq ?_
    refine wblock ?_
    refine regO ?_
    obtain ⟨hq, hm⟩ := hm
    refine op1 (index (e := 3) (k := .i64) T hS kr kr kr kr h101 kr kr hq.1 hq.2 ?_)
    intro A103 a h104 hS
    clear hq
    refine op1 (load1 T hS kr kr kr h104 rfl kr ?_)
    intro v105 a hv hS
    cases hv
    refine eP T hS ⟨[(3, I 0), (5, I (gi vals x_102)), (6, Sl a1 vals c1), (7, I ((vals.length : Nat) : Int)), (8, I x_102)], []⟩ fun a hS => ?_
    refine rP T hS ⟨[(3, I 0), (5, I (gi vals x_102)), (6, Sl a1 vals c1), (7, I ((vals.length : Nat) : Int)), (8, I x_102), (14, B ((gi vals x_102) != 0))], []⟩ fun a hS => ?_
    refine wcond hS (b := ((gi vals x_102) != 0)) kr (fun hb => ?_) (fun hb => ?_)
    ·replace hm := hm.1 hb
     refine rP T hS ⟨[(2, I (gi vals x_102))], []⟩ fun a hS => ?_
     refine wret ?_
     exact fin T hS hO (fun c => c) rfl (r := [.int .i64 (gi vals x_102)]) kr (fun χ' hM hC => ⟨(gi vals x_102), hm, rfl⟩)
    ·replace hm := hm.2 hb
     refine wskip ?_
     refine region (eP T hS ⟨[(3, I 0), (6, Sl a1 vals c1), (7, I ((vals.length : Nat) : Int)), (8, I (IntKind.i64.wrap (x_102 + 1)))], []⟩ fun a hS => ?_)
     exact ⟨IntKind.i64.wrap (x_102 + 1), ⟨ρ, _, hm.1, hS.sl _, hO, h101⟩, hm.2⟩
   ·replace hm := hm.2 hb
    refine wexit (by rfl) ?_
    exact ⟨ρ, _, hm, hS.sl _, hO⟩
 ·rintro a w109 ⟨ρ, χ108, hm, hS, hO⟩
  unfold VC61_J1 at hm
  refine rP T hS ⟨[(2, I 0)], []⟩ fun a hS => ?_
  refine wret ?_
  exact fin T hS hO (fun c => c) rfl (r := [.int .i64 0]) kr (fun χ' hM hC => ⟨0, hm, rfl⟩)
theorem C61 (v : ∀ (vals : List Int), VC61 vals (fun r => r = cmp_Or_int vals)) : S61 := by
 intro w χ vals a1 c1   h1
 refine (W61 w χ vals a1 c1   _ (v vals) h1).mono ?_
 rintro _ _ _ _ ⟨r, rfl, h⟩
 exact h
/-- cmp.isNaN[int] -/
theorem W66 (w0 : World) (χ0 : Nat → Nat) (x_ : Int) (Q : Bool → Prop) (hm : VC66 x_ Q) :
  Ret Try.prog 66 #[.int .i64 x_] xnone w0 χ0 (fun w χ' v => ∃ r, Q r ∧ v = .bool r) := by
 unfold VC66 at hm
 refine enter Try.func66 rfl (vals := [.int .i64 x_]) kr ?_
 intro ρ a hS hO hM
 clear hM
 refine rP T hS ⟨[(0, I x_)], []⟩ fun a hS => ?_
 refine rP T hS ⟨[(2, B (x_ != x_))], []⟩ fun a hS => ?_
 refine wret ?_
 exact fin T hS hO (fun c => c) rfl (r := [.bool (x_ != x_)]) kr (fun χ' hM hC => ⟨(x_ != x_), hm, rfl⟩)
theorem C66 (v : ∀ (x_ : Int), VC66 x_ (fun r => r = cmp_isNaN_int x_)) : S66 := by
 intro w χ x_    
 refine (W66 w χ x_    _ (v x_)).mono ?_
 rintro _ _ _ _ ⟨r, rfl, h⟩
 exact h
/-- cmp.Compare[int] -/
theorem W62 (k66 : S66) (w0 : World) (χ0 : Nat → Nat) (x_ : Int) (y_ : Int) (Q : Int → Prop) (hm : VC62 x_ y_ Q) :
  Ret Try.prog 62 #[.int .i64 x_, .int .i64 y_] xnone w0 χ0 (fun w χ' v => ∃ r, Q r ∧ v = .int .i64 r) := by
 unfold VC62 at hm
 refine enter Try.func62 rfl (vals := [.int .i64 x_, .int .i64 y_]) kr ?_
 intro ρ a hS hO hM
 clear hM
 refine rP T hS ⟨[(0, I x_), (1, I y_)], []⟩ fun a hS => ?_
 refine regO ?_
 refine oP T hS 1 ⟨[(0, I x_), (1, I y_), (7, I x_)], []⟩ fun a hS => ?_
 refine op1 (call hS kr kr hb66 kr (fun _ _ => rfl) (k66 _ _ x_) ?_)
 intro v101 a w102 χ103 hE hp hS
 replace hO := hO.mv hE rfl rfl
 clear hE
 obtain ⟨r104, hr⟩ : ∃ r, cmp_isNaN_int x_ = r := ⟨_, rfl⟩
 replace hm := hm r104 hr
 rw [hr] at hp
 clear hr
 subst hp
 refine eP T hS ⟨[(0, I x_), (1, I y_), (5, B r104)], []⟩ fun a hS => ?_
 refine regO ?_
 refine oP T hS 1 ⟨[(0, I x_), (1, I y_), (5, B r104), (9, I y_)], []⟩ fun a hS => ?_
 refine op1 (call hS kr kr hb66 kr (fun _ _ => rfl) (k66 _ _ y_) ?_)
 intro v105 a w106 χ107 hE hp hS
 replace hO := hO.mv hE rfl rfl
 clear hE
 obtain ⟨r108, hr⟩ : ∃ r, cmp_isNaN_int y_ = r := ⟨_, rfl⟩
 replace hm := hm r108 hr
 rw [hr] at hp
 clear hr
 subst hp
 refine eP T hS ⟨[(0, I x_), (1, I y_), (5, B r104), (6, B r108)], []⟩ fun a hS => ?_
 refine wseq ?_
 refine rP T hS ⟨[(0, I x_), (1, I y_), (6, B r108), (11, B r104)], []⟩ fun a hS => ?_
 refine wcond hS (b := r104) kr (fun hb => ?_) (fun hb => ?_)
 ·replace hm := hm.1 hb
  refine wseq ?_
  refine rP T hS ⟨[(12, B r108)], []⟩ fun a hS => ?_
  refine wcond hS (b := r108) kr (fun hb => ?_) (fun hb => ?_)
  ·replace hm := hm.1 hb
   refine rP T hS ⟨[(4, I 0)], []⟩ fun a hS => ?_
   refine wret ?_
   exact fin T hS hO (fun c => c) rfl (r := [.int .i64 0]) kr (fun χ' hM hC => ⟨0, hm, rfl⟩)
  ·replace hm := hm.2 hb
   refine wskip ?_
   refine rP T hS ⟨[(4, I (-1))], []⟩ fun a hS => ?_
   refine wret ?_
   exact fin T hS hO (fun c => c) rfl (r := [.int .i64 (-1)]) kr (fun χ' hM hC => ⟨(-1), hm, rfl⟩)
 ·replace hm := hm.2 hb
  refine wskip ?_
  refine wseq ?_
  refine rP T hS ⟨[(0, I x_), (1, I y_), (13, B r108)], []⟩ fun a hS => ?_
  refine wcond hS (b := r108) kr (fun hb => ?_) (fun hb => ?_)
  ·replace hm := hm.1 hb
   refine rP T hS ⟨[(4, I 1)], []⟩ fun a hS => ?_
   refine wret ?_
   exact fin T hS hO (fun c => c) rfl (r := [.int .i64 1]) kr (fun χ' hM hC => ⟨1, hm, rfl⟩)
  ·replace hm := hm.2 hb
   refine wskip ?_
   refine wseq ?_
   refine rP T hS ⟨[(0, I x_), (1, I y_), (16, B (decide (x_ < y_)))], []⟩ fun a hS => ?_
   refine wcond hS (b := decide (x_ < y_)) kr (fun hb => ?_) (fun hb => ?_)
   ·replace hm := hm.1 hb
    refine rP T hS ⟨[(4, I (-1))], []⟩ fun a hS => ?_
    refine wret ?_
    exact fin T hS hO (fun c => c) rfl (r := [.int .i64 (-1)]) kr (fun χ' hM hC => ⟨(-1), hm, rfl⟩)
   ·replace hm := hm.2 hb
    refine wskip ?_
    refine wseq ?_
    refine rP T hS ⟨[(19, B (decide (x_ > y_)))], []⟩ fun a hS => ?_
    refine wcond hS (b := decide (x_ > y_)) kr (fun hb => ?_) (fun hb => ?_)
    ·replace hm := hm.1 hb
     refine rP T hS ⟨[(4, I 1)], []⟩ fun a hS => ?_
     refine wret ?_
     exact fin T hS hO (fun c => c) rfl (r := [.int .i64 1]) kr (fun χ' hM hC => ⟨1, hm, rfl⟩)
    ·replace hm := hm.2 hb
     refine wskip ?_
     refine rP T hS ⟨[(4, I 0)], []⟩ fun a hS => ?_
     refine wret ?_
     exact fin T hS hO (fun c => c) rfl (r := [.int .i64 0]) kr (fun χ' hM hC => ⟨0, hm, rfl⟩)
theorem C62 (k66 : S66) (v : ∀ (x_ : Int) (y_ : Int), VC62 x_ y_ (fun r => r = cmp_Compare_int x_ y_)) : S62 := by
 intro w χ x_ y_    
 refine (W62 k66 w χ x_ y_    _ (v x_ y_)).mono ?_
 rintro _ _ _ _ ⟨r, rfl, h⟩
 exact h
/-- replevin/object.place -/
theorem W56 (k61 : S61) (k62 : S62) (w0 : World) (χ0 : Nat → Nat) (a_ : Api_Row) (b_ : Api_Row) (Q : Int → Prop) (hm : VC56 a_ b_ Q) :
  Ret Try.prog 56 #[.agg #[.int .i64 a_.State, .int .i64 a_.Kind, .int .i64 a_.Next, .int .i64 a_.Result], .agg #[.int .i64 b_.State, .int .i64 b_.Kind, .int .i64 b_.Next, .int .i64 b_.Result]] xnone w0 χ0 (fun w χ' v => ∃ r, Q r ∧ v = .int .i64 r) := by
 unfold VC56 at hm
 refine enter Try.func56 rfl (vals := [.agg #[.int .i64 a_.State, .int .i64 a_.Kind, .int .i64 a_.Next, .int .i64 a_.Result], .agg #[.int .i64 b_.State, .int .i64 b_.Kind, .int .i64 b_.Next, .int .i64 b_.Result]]) kr ?_
 intro ρ a hS hO hM
 clear hM
 refine rM T hS ⟨[(2, Pt 3 0), (3, Pt 4 0)], [(3, (67, [I a_.State, I a_.Kind, I a_.Next, I a_.Result])), (4, (67, [I b_.State, I b_.Kind, I b_.Next, I b_.Result]))]⟩ fun ρ a w119 χ120 hS hE hr => ?_
 replace hO := hO.mv hE rfl rfl
 clear hE hr
 refine drawnSX [3, 4] mixed hS ?_
 intro w101 χ102 hS hE hD hH
 replace hO := hO.mv hE rfl rfl
 clear hE
 refine tk T [0, 2, 5, 7, 1, 3, 6, 8] [3, 4] hS hH #[true, true, true, true, false, true, true, true, true, false, false, false, false] 5 ⟨[(6, I a_.State), (8, I b_.State), (11, I a_.Kind), (13, I b_.Kind)], [(3, (67, [I a_.State, I a_.Kind, I a_.Next, I a_.Result])), (4, (67, [I b_.State, I b_.Kind, I b_.Next, I b_.Result]))]⟩ fun a hS => ?_
 refine only 4 kr (by rfl) (call hS kr kr hb62 kr (fun _ _ => rfl) (k62 _ _ a_.State b_.State) ?_)
 intro v103 a w104 χ105 hE hp hS
 replace hO := hO.mv hE rfl rfl
 replace hD := hD.ev hE rfl
 clear hE
 obtain ⟨r106, hr⟩ : ∃ r, cmp_Compare_int a_.State b_.State = r := ⟨_, rfl⟩
 replace hm := hm r106 hr
 rw [hr] at hp
 clear hr
 subst hp
 replace hS := hS.sl ⟨[(6, I a_.State), (8, I b_.State), (11, I a_.Kind), (13, I b_.Kind), (9, I r106)], [(3, (67, [I a_.State, I a_.Kind, I a_.Next, I a_.Result])), (4, (67, [I b_.State, I b_.Kind, I b_.Next, I b_.Result]))]⟩
 refine andH (Hold.of hS (bks := [3, 4]) kr hD) ?_
 intro hH
 refine only 9 kr (by rfl) (call hS kr kr hb62 kr (fun _ _ => rfl) (k62 _ _ a_.Kind b_.Kind) ?_)
 intro v107 a w108 χ109 hE hp hS
 replace hO := hO.mv hE rfl rfl
 replace hD := hD.ev hE rfl
 clear hE
 obtain ⟨r110, hr⟩ : ∃ r, cmp_Compare_int a_.Kind b_.Kind = r := ⟨_, rfl⟩
 replace hm := hm r110 hr
 rw [hr] at hp
 clear hr
 subst hp
 replace hS := hS.sl ⟨[(6, I a_.State), (8, I b_.State), (11, I a_.Kind), (13, I b_.Kind), (9, I r106), (14, I r110)], [(3, (67, [I a_.State, I a_.Kind, I a_.Next, I a_.Result])), (4, (67, [I b_.State, I b_.Kind, I b_.Next, I b_.Result]))]⟩
 refine andH (Hold.of hS (bks := [3, 4]) kr hD) ?_
 intro hH
 refine only 10 kr (by rfl) (lit (E := 3) (col := 0) (T := tI) (vals := [.int .i64 r106, .int .i64 r110]) (ys := [r106, r110]) T hS kr kr kr kr (by exact ⟨rfl, rfl, trivial⟩) rfl kr kr kr kr ?_)
 intro b111 a w112 χ113 hE h114 hN hS
 clear hN
 replace hO := hO.mv hE rfl rfl
 replace hD := hD.ev hE rfl
 clear hE
 replace h114 := h114.rs0
 refine andH (Hold.of hS (bks := [3, 4]) kr hD) ?_
 intro hH
 refine only 11 kr (by rfl) (call hS kr kr hb61 kr (fun _ _ => rfl) (k61 _ _ [r106, r110] (some ⟨b111, 0, none⟩) 2 h114) ?_)
 intro v115 a w116 χ117 hE hp hS
 replace hO := hO.mv hE rfl rfl
 replace hD := hD.ev hE rfl
 replace h114 := h114.mv hE rfl
 clear hE
 obtain ⟨r118, hr⟩ : ∃ r, cmp_Or_int [r106, r110] = r := ⟨_, rfl⟩
 replace hm := hm r118 hr
 rw [hr] at hp
 clear hr
 subst hp
 replace hS := hS.sl ⟨[(6, I a_.State), (8, I b_.State), (11, I a_.Kind), (13, I b_.Kind), (9, I r106), (14, I r110), (15, Sl (some ⟨b111, 0, none⟩) [r106, r110] 2), (16, I r118)], [(3, (67, [I a_.State, I a_.Kind, I a_.Next, I a_.Result])), (4, (67, [I b_.State, I b_.Kind, I b_.Next, I b_.Result]))]⟩
 refine andH (Hold.of hS (bks := [3, 4]) kr hD) ?_
 intro hH
 refine tk T [12] [3, 4] hS hH #[true, true, true, true, true, true, true, true, true, true, true, true, true] 0 ⟨[(4, I r118)], [(3, (67, [I a_.State, I a_.Kind, I a_.Next, I a_.Result])), (4, (67, [I b_.State, I b_.Kind, I b_.Next, I b_.Result]))]⟩ fun a hS => ?_
 refine drawnDone kr ?_
 clear hD hH
 replace hS := hS.sl ⟨[(4, I r118)], []⟩
 refine wret ?_
 exact fin T hS hO (fun c => c) rfl (r := [.int .i64 r118]) kr (fun χ' hM hC => ⟨r118, hm, rfl⟩)
theorem C56 (k61 : S61) (k62 : S62) (v : ∀ (a_ : Api_Row) (b_ : Api_Row), VC56 a_ b_ (fun r => r = object_place a_ b_)) : S56 := by
 intro w χ a_ b_    
 refine (W56 k61 k62 w χ a_ b_    _ (v a_ b_)).mono ?_
 rintro _ _ _ _ ⟨r, rfl, h⟩
 exact h
/-- replevin/object.row -/
theorem W47 (k46 : S46) (k56 : S56) (w0 : World) (χ0 : Nat → Nat) (o_ : Api_Object) (i_ : Int) (a1 : Option Addr) (c1 : Nat) (Q : Int → Prop) (hm : VC47 o_ i_ Q) (h1 : RS tApi_Row w0 χ0 a1 o_.Rows c1) :
  Ret Try.prog 47 #[.agg #[.int .i64 o_.States, .int .i64 o_.Kinds, .int .i64 o_.Init, .slice a1 o_.Rows.length c1], .int .i64 i_] xnone w0 χ0 (fun w χ' v => ∃ r, Q r ∧ v = .int .i64 r) := by
 unfold VC47 at hm
 replace hm := hm (h1.sm kr)
 refine enter Try.func47 rfl (vals := [.agg #[.int .i64 o_.States, .int .i64 o_.Kinds, .int .i64 o_.Init, .slice a1 o_.Rows.length c1], .int .i64 i_]) kr ?_
 intro ρ a hS hO hM
 replace h1 := h1.m0 hM
 clear hM
 refine rM T hS ⟨[(1, I i_), (2, Pt 3 0)], [(3, (24, [I o_.States, I o_.Kinds, I o_.Init, Sl a1 o_.Rows c1]))]⟩ fun ρ a w138 χ139 hS hE hr => ?_
 replace hO := hO.mv hE rfl rfl
 replace h1 := h1.mv hE rfl
 clear hE hr
 refine regO ?_
 refine oP T hS 3 ⟨[(1, I i_), (2, Pt 3 0), (7, Sl a1 o_.Rows c1), (8, I i_)], [(3, (24, [I o_.States, I o_.Kinds, I o_.Init, Sl a1 o_.Rows c1]))]⟩ fun a hS => ?_
 obtain ⟨hq, hm⟩ := hm
 refine op1 (index (e := 67) (k := .i64) T hS kr kr kr kr h1 kr kr hq.1 hq.2 ?_)
 intro A101 a h102 hS
 clear hq
 refine op1 (loadA T hS kr kr kr h102 kr kr ?_)
 intro v103 a hv hS
 subst hv
 refine eM T hS ⟨[(1, I i_), (2, Pt 3 0), (5, Pt 6 0)], [(3, (24, [I o_.States, I o_.Kinds, I o_.Init, Sl a1 o_.Rows c1])), (6, (67, [I ((gi o_.Rows i_).State), I ((gi o_.Rows i_).Kind), I ((gi o_.Rows i_).Next), I ((gi o_.Rows i_).Result)]))]⟩ fun ρ a w136 χ137 hS hE hr => ?_
 replace hO := hO.mv hE rfl rfl
 replace h1 := h1.mv hE rfl
 clear hE hr
 refine wseq ?_
 refine wblock ?_
 refine wcut (fun a w => ∃ (ρ : Nat → Nat) (χ : Nat → Nat) (x_104 : Bool), VC47_J1 o_ i_ Q x_104 ∧ St Try.f47.ntmps ⟨[(1, I i_), (2, Pt 3 0), (5, Pt 6 0), (11, B x_104)], [(3, (24, [I o_.States, I o_.Kinds, I o_.Init, Sl a1 o_.Rows c1])), (6, (67, [I ((gi o_.Rows i_).State), I ((gi o_.Rows i_).Kind), I ((gi o_.Rows i_).Next), I ((gi o_.Rows i_).Result)]))]⟩ ρ a w χ ∧ Old w0 χ0 w χ ∧ RS tApi_Row w χ a1 o_.Rows c1) ?_ ?_
 ·refine region ?_
  refine oP T hS 4 ⟨[(1, I i_), (2, Pt 3 0), (5, Pt 6 0), (13, I ((gi o_.Rows i_).State)), (15, I o_.States)], [(3, (24, [I o_.States, I o_.Kinds, I o_.Init, Sl a1 o_.Rows c1])), (6, (67, [I ((gi o_.Rows i_).State), I ((gi o_.Rows i_).Kind), I ((gi o_.Rows i_).Next), I ((gi o_.Rows i_).Result)]))]⟩ fun a hS => ?_
  refine op1 (call hS kr kr hb46 kr (fun _ _ => rfl) (k46 _ _ ((gi o_.Rows i_).State) o_.States) ?_)
  intro v126 a w127 χ128 hE hp hS
  replace hO := hO.mv hE rfl rfl
  replace h1 := h1.mv hE rfl
  clear hE
  obtain ⟨r129, hr⟩ : ∃ r, object_within ((gi o_.Rows i_).State) o_.States = r := ⟨_, rfl⟩
  replace hm := hm r129 hr
  rw [hr] at hp
  clear hr
  subst hp
  refine oP T hS 2 ⟨[(1, I i_), (2, Pt 3 0), (5, Pt 6 0), (18, B (!r129))], [(3, (24, [I o_.States, I o_.Kinds, I o_.Init, Sl a1 o_.Rows c1])), (6, (67, [I ((gi o_.Rows i_).State), I ((gi o_.Rows i_).Kind), I ((gi o_.Rows i_).Next), I ((gi o_.Rows i_).Result)]))]⟩ fun a hS => ?_
  rcases Bool.eq_false_or_eq_true (!r129) with hb | hb
  ·replace hS := hS.lit (t := 18) kr hb
   replace hm := hm.1 hb
   refine eP T hS ⟨[(1, I i_), (2, Pt 3 0), (5, Pt 6 0), (11, B true)], [(3, (24, [I o_.States, I o_.Kinds, I o_.Init, Sl a1 o_.Rows c1])), (6, (67, [I ((gi o_.Rows i_).State), I ((gi o_.Rows i_).Kind), I ((gi o_.Rows i_).Next), I ((gi o_.Rows i_).Result)]))]⟩ fun a hS => ?_
   exact ⟨ρ, _, true, hm, hS.sl _, hO, h1⟩
  ·replace hS := hS.lit (t := 18) kr hb
   replace hm := hm.2 hb
   refine oP T hS 4 ⟨[(1, I i_), (2, Pt 3 0), (5, Pt 6 0), (18, B false), (20, I ((gi o_.Rows i_).Next)), (22, I o_.States)], [(3, (24, [I o_.States, I o_.Kinds, I o_.Init, Sl a1 o_.Rows c1])), (6, (67, [I ((gi o_.Rows i_).State), I ((gi o_.Rows i_).Kind), I ((gi o_.Rows i_).Next), I ((gi o_.Rows i_).Result)]))]⟩ fun a hS => ?_
   refine op1 (call hS kr kr hb46 kr (fun _ _ => rfl) (k46 _ _ ((gi o_.Rows i_).Next) o_.States) ?_)
   intro v130 a w131 χ132 hE hp hS
   replace hO := hO.mv hE rfl rfl
   replace h1 := h1.mv hE rfl
   clear hE
   obtain ⟨r133, hr⟩ : ∃ r, object_within ((gi o_.Rows i_).Next) o_.States = r := ⟨_, rfl⟩
   replace hm := hm r133 hr
   rw [hr] at hp
   clear hr
   subst hp
   refine eP T hS ⟨[(1, I i_), (2, Pt 3 0), (5, Pt 6 0), (11, B (!r133))], [(3, (24, [I o_.States, I o_.Kinds, I o_.Init, Sl a1 o_.Rows c1])), (6, (67, [I ((gi o_.Rows i_).State), I ((gi o_.Rows i_).Kind), I ((gi o_.Rows i_).Next), I ((gi o_.Rows i_).Result)]))]⟩ fun a hS => ?_
   exact ⟨ρ, _, (!r133), hm, hS.sl _, hO, h1⟩
 ·rintro a w135 ⟨ρ, χ134, x_104, hm, hS, hO, h105⟩
  unfold VC47_J1 at hm
  refine wcond hS (b := x_104) kr (fun hb => ?_) (fun hb => ?_)
  ·replace hm := hm.1 hb
   refine rP T hS ⟨[(4, I 30)], []⟩ fun a hS => ?_
   refine wret ?_
   exact fin T hS hO (fun c => c) rfl (r := [.int .i64 30]) kr (fun χ' hM hC => ⟨30, hm, rfl⟩)
  ·replace hm := hm.2 hb
   refine regO ?_
   refine oP T hS 4 ⟨[(1, I i_), (2, Pt 3 0), (5, Pt 6 0), (28, I ((gi o_.Rows i_).Kind)), (30, I o_.Kinds)], [(3, (24, [I o_.States, I o_.Kinds, I o_.Init, Sl a1 o_.Rows c1])), (6, (67, [I ((gi o_.Rows i_).State), I ((gi o_.Rows i_).Kind), I ((gi o_.Rows i_).Next), I ((gi o_.Rows i_).Result)]))]⟩ fun a hS => ?_
   refine op1 (call hS kr kr hb46 kr (fun _ _ => rfl) (k46 _ _ ((gi o_.Rows i_).Kind) o_.Kinds) ?_)
   intro v106 a w107 χ108 hE hp hS
   replace hO := hO.mv hE rfl rfl
   replace h105 := h105.mv hE rfl
   clear hE
   obtain ⟨r109, hr⟩ : ∃ r, object_within ((gi o_.Rows i_).Kind) o_.Kinds = r := ⟨_, rfl⟩
   replace hm := hm r109 hr
   rw [hr] at hp
   clear hr
   subst hp
   refine eP T hS ⟨[(1, I i_), (2, Pt 3 0), (5, Pt 6 0), (26, B (!r109))], [(3, (24, [I o_.States, I o_.Kinds, I o_.Init, Sl a1 o_.Rows c1])), (6, (67, [I ((gi o_.Rows i_).State), I ((gi o_.Rows i_).Kind), I ((gi o_.Rows i_).Next), I ((gi o_.Rows i_).Result)]))]⟩ fun a hS => ?_
   refine wcond hS (b := (!r109)) kr (fun hb => ?_) (fun hb => ?_)
   ·replace hm := hm.1 hb
    refine rP T hS ⟨[(4, I 31)], []⟩ fun a hS => ?_
    refine wret ?_
    exact fin T hS hO (fun c => c) rfl (r := [.int .i64 31]) kr (fun χ' hM hC => ⟨31, hm, rfl⟩)
   ·replace hm := hm.2 hb
    refine regO ?_
    refine oP T hS 2 ⟨[(1, I i_), (2, Pt 3 0), (5, Pt 6 0), (35, I ((gi o_.Rows i_).Result))], [(3, (24, [I o_.States, I o_.Kinds, I o_.Init, Sl a1 o_.Rows c1])), (6, (67, [I ((gi o_.Rows i_).State), I ((gi o_.Rows i_).Kind), I ((gi o_.Rows i_).Next), I ((gi o_.Rows i_).Result)]))]⟩ fun a hS => ?_
    refine op1 (call hS kr kr hb46 kr (fun _ _ => rfl) (k46 _ _ ((gi o_.Rows i_).Result) 1000001) ?_)
    intro v110 a w111 χ112 hE hp hS
    replace hO := hO.mv hE rfl rfl
    replace h105 := h105.mv hE rfl
    clear hE
    obtain ⟨r113, hr⟩ : ∃ r, object_within ((gi o_.Rows i_).Result) 1000001 = r := ⟨_, rfl⟩
    replace hm := hm r113 hr
    rw [hr] at hp
    clear hr
    subst hp
    refine eP T hS ⟨[(1, I i_), (2, Pt 3 0), (5, Pt 6 0), (33, B (!r113))], [(3, (24, [I o_.States, I o_.Kinds, I o_.Init, Sl a1 o_.Rows c1])), (6, (67, [I ((gi o_.Rows i_).State), I ((gi o_.Rows i_).Kind), I ((gi o_.Rows i_).Next), I ((gi o_.Rows i_).Result)]))]⟩ fun a hS => ?_
    refine wcond hS (b := (!r113)) kr (fun hb => ?_) (fun hb => ?_)
    ·replace hm := hm.1 hb
     refine rP T hS ⟨[(4, I 7)], []⟩ fun a hS => ?_
     refine wret ?_
     exact fin T hS hO (fun c => c) rfl (r := [.int .i64 7]) kr (fun χ' hM hC => ⟨7, hm, rfl⟩)
    ·replace hm := hm.2 hb
     refine wcut (fun a w => ∃ (ρ : Nat → Nat) (χ : Nat → Nat) (x_114 : Bool), VC47_J2 Q x_114 ∧ St Try.f47.ntmps ⟨[(38, B x_114)], []⟩ ρ a w χ ∧ Old w0 χ0 w χ) ?_ ?_
     ·refine drawnX [3, 6] mixed hS ?_
      intro w115 χ116 hS hE hD hH
      replace hO := hO.mv hE rfl rfl
      replace h105 := h105.mv hE rfl
      clear hE
      refine tk T [0, 1, 2] [3, 6] hS hH #[true, true, true, false, false, false, false, false, false, false, false, false, false, false] 11 ⟨[(1, I i_), (2, Pt 3 0), (5, Pt 6 0), (41, B (decide (i_ > 0)))], [(3, (24, [I o_.States, I o_.Kinds, I o_.Init, Sl a1 o_.Rows c1])), (6, (67, [I ((gi o_.Rows i_).State), I ((gi o_.Rows i_).Kind), I ((gi o_.Rows i_).Next), I ((gi o_.Rows i_).Result)]))]⟩ fun a hS => ?_
      rcases Bool.eq_false_or_eq_true (decide (i_ > 0)) with hb | hb
      ·replace hS := hS.lit (t := 41) kr hb
       replace hm := hm.1 hb
       refine tk T [3, 5, 9, 4, 6] [3, 6] hS hH #[true, true, true, true, true, true, true, false, false, true, false, false, false, false] 6 ⟨[(41, B true), (43, Sl a1 o_.Rows c1), (45, I (IntKind.i64.wrap (i_ - 1))), (48, V (.agg #[.int .i64 ((gi o_.Rows i_).State), .int .i64 ((gi o_.Rows i_).Kind), .int .i64 ((gi o_.Rows i_).Next), .int .i64 ((gi o_.Rows i_).Result)]))], [(3, (24, [I o_.States, I o_.Kinds, I o_.Init, Sl a1 o_.Rows c1])), (6, (67, [I ((gi o_.Rows i_).State), I ((gi o_.Rows i_).Kind), I ((gi o_.Rows i_).Next), I ((gi o_.Rows i_).Result)]))]⟩ fun a hS => ?_
       obtain ⟨hq, hm⟩ := hm
       refine dindex (e := 67) (k := .i64) T 7 hS kr kr kr (by rfl) kr hH kr kr h105 kr kr hq.1 hq.2 ?_
       intro A117 a h118 hS
       clear hq
       have h118b := h118.here
       refine dloadA T 8 hS kr kr kr (by rfl) kr hH kr h118 h118b kr kr ?_
       intro v119 a hv hS
       subst hv
       refine only 10 kr (by rfl) (call hS kr kr hb56 kr (fun _ _ => rfl) (k56 _ _ (gi o_.Rows (IntKind.i64.wrap (i_ - 1))) (gi o_.Rows i_)) ?_)
       intro v120 a w121 χ122 hE hp hS
       replace hO := hO.mv hE rfl rfl
       replace hD := hD.ev hE rfl
       replace h105 := h105.mv hE rfl
       replace h118 := h118.mv hE rfl
       clear hE
       obtain ⟨r123, hr⟩ : ∃ r, object_place (gi o_.Rows (IntKind.i64.wrap (i_ - 1))) (gi o_.Rows i_) = r := ⟨_, rfl⟩
       replace hm := hm r123 hr
       rw [hr] at hp
       clear hr
       subst hp
       replace hS := hS.sl ⟨[(41, B true), (43, Sl a1 o_.Rows c1), (45, I (IntKind.i64.wrap (i_ - 1))), (48, V (.agg #[.int .i64 ((gi o_.Rows i_).State), .int .i64 ((gi o_.Rows i_).Kind), .int .i64 ((gi o_.Rows i_).Next), .int .i64 ((gi o_.Rows i_).Result)])), (46, V (.pointer (some A117))), (47, V (.agg #[.int .i64 ((gi o_.Rows (IntKind.i64.wrap (i_ - 1))).State), .int .i64 ((gi o_.Rows (IntKind.i64.wrap (i_ - 1))).Kind), .int .i64 ((gi o_.Rows (IntKind.i64.wrap (i_ - 1))).Next), .int .i64 ((gi o_.Rows (IntKind.i64.wrap (i_ - 1))).Result)])), (49, I r123)], [(3, (24, [I o_.States, I o_.Kinds, I o_.Init, Sl a1 o_.Rows c1])), (6, (67, [I ((gi o_.Rows i_).State), I ((gi o_.Rows i_).Kind), I ((gi o_.Rows i_).Next), I ((gi o_.Rows i_).Result)]))]⟩
       refine andH (Hold.of hS (bks := [3, 6]) kr hD) ?_
       intro hH
       refine tk T [11, 12, 13] [3, 6] hS hH #[true, true, true, true, true, true, true, true, true, true, true, true, true, true] 0 ⟨[(38, B (decide (r123 ≥ 0)))], [(3, (24, [I o_.States, I o_.Kinds, I o_.Init, Sl a1 o_.Rows c1])), (6, (67, [I ((gi o_.Rows i_).State), I ((gi o_.Rows i_).Kind), I ((gi o_.Rows i_).Next), I ((gi o_.Rows i_).Result)]))]⟩ fun a hS => ?_
       refine drawnDone kr ?_
       clear hD hH
       replace hS := hS.sl ⟨[(38, B (decide (r123 ≥ 0)))], []⟩
       exact ⟨ρ, _, decide (r123 ≥ 0), hm, hS.sl _, hO⟩
      ·replace hS := hS.lit (t := 41) kr hb
       replace hm := hm.2 hb
       refine tk T [3, 5, 9, 4, 6, 7, 8, 10, 11, 12, 13] [3, 6] hS hH #[true, true, true, true, true, true, true, true, true, true, true, true, true, true] 0 ⟨[(38, B false)], [(3, (24, [I o_.States, I o_.Kinds, I o_.Init, Sl a1 o_.Rows c1])), (6, (67, [I ((gi o_.Rows i_).State), I ((gi o_.Rows i_).Kind), I ((gi o_.Rows i_).Next), I ((gi o_.Rows i_).Result)]))]⟩ fun a hS => ?_
       refine drawnDone kr ?_
       clear hD hH
       replace hS := hS.sl ⟨[(38, B false)], []⟩
       exact ⟨ρ, _, false, hm, hS.sl _, hO⟩
     ·rintro a w125 ⟨ρ, χ124, x_114, hm, hS, hO⟩
      unfold VC47_J2 at hm
      refine wcond hS (b := x_114) kr (fun hb => ?_) (fun hb => ?_)
      ·replace hm := hm.1 hb
       refine rP T hS ⟨[(4, I 32)], []⟩ fun a hS => ?_
       refine wret ?_
       exact fin T hS hO (fun c => c) rfl (r := [.int .i64 32]) kr (fun χ' hM hC => ⟨32, hm, rfl⟩)
      ·replace hm := hm.2 hb
       refine wskip ?_
       refine rP T hS ⟨[(4, I 0)], []⟩ fun a hS => ?_
       refine wret ?_
       exact fin T hS hO (fun c => c) rfl (r := [.int .i64 0]) kr (fun χ' hM hC => ⟨0, hm, rfl⟩)
theorem C47 (k46 : S46) (k56 : S56) (v : ∀ (o_ : Api_Object) (i_ : Int), preRow o_ i_ → VC47 o_ i_ (fun r => r = object_row o_ i_)) : S47 := by
 intro w χ o_ i_ a1 c1   hp h1
 refine (W47 k46 k56 w χ o_ i_ a1 c1   _ (v o_ i_ hp) h1).mono ?_
 rintro _ _ _ _ ⟨r, rfl, h⟩
 exact h
/-- replevin/object.Check -/
theorem W30 (k46 : S46) (k47 : S47) (w0 : World) (χ0 : Nat → Nat) (o_ : Api_Object) (a1 : Option Addr) (c1 : Nat) (Q : Int × Int → Prop) (hm : VC30 o_ Q) (h1 : RS tApi_Row w0 χ0 a1 o_.Rows c1) :
  Ret Try.prog 30 #[.agg #[.int .i64 o_.States, .int .i64 o_.Kinds, .int .i64 o_.Init, .slice a1 o_.Rows.length c1]] xnone w0 χ0 (fun w χ' v => ∃ r, Q r ∧ v = .tuple #[.int .i64 r.1, .int .i64 r.2]) := by
 unfold VC30 at hm
 replace hm := hm (h1.sm kr)
 refine enter Try.func30 rfl (vals := [.agg #[.int .i64 o_.States, .int .i64 o_.Kinds, .int .i64 o_.Init, .slice a1 o_.Rows.length c1]]) kr ?_
 intro ρ a hS hO hM
 replace h1 := h1.m0 hM
 clear hM
 refine rM T hS ⟨[(1, Pt 2 0)], [(2, (24, [I o_.States, I o_.Kinds, I o_.Init, Sl a1 o_.Rows c1]))]⟩ fun ρ a w128 χ129 hS hE hr => ?_
 replace hO := hO.mv hE rfl rfl
 replace h1 := h1.mv hE rfl
 clear hE hr
 refine wseq ?_
 refine wcut (fun a w => ∃ (ρ : Nat → Nat) (χ : Nat → Nat) (x_101 : Bool), VC30_J1 o_ Q x_101 ∧ St Try.f30.ntmps ⟨[(1, Pt 2 0), (25, B x_101)], [(2, (24, [I o_.States, I o_.Kinds, I o_.Init, Sl a1 o_.Rows c1]))]⟩ ρ a w χ ∧ Old w0 χ0 w χ ∧ RS tApi_Row w χ a1 o_.Rows c1) ?_ ?_
 ·refine region ?_
  refine oP T hS 3 ⟨[(1, Pt 2 0), (8, I (IntKind.i64.wrap (o_.States - 1)))], [(2, (24, [I o_.States, I o_.Kinds, I o_.Init, Sl a1 o_.Rows c1]))]⟩ fun a hS => ?_
  refine op1 (call hS kr kr hb46 kr (fun _ _ => rfl) (k46 _ _ (IntKind.i64.wrap (o_.States - 1)) 32) ?_)
  intro v114 a w115 χ116 hE hp hS
  replace hO := hO.mv hE rfl rfl
  replace h1 := h1.mv hE rfl
  clear hE
  obtain ⟨r117, hr⟩ : ∃ r, object_within (IntKind.i64.wrap (o_.States - 1)) 32 = r := ⟨_, rfl⟩
  replace hm := hm r117 hr
  rw [hr] at hp
  clear hr
  subst hp
  refine oP T hS 2 ⟨[(1, Pt 2 0), (11, B (!r117))], [(2, (24, [I o_.States, I o_.Kinds, I o_.Init, Sl a1 o_.Rows c1]))]⟩ fun a hS => ?_
  rcases Bool.eq_false_or_eq_true (!r117) with hb | hb
  ·replace hS := hS.lit (t := 11) kr hb
   replace hm := hm.1 hb
   refine eP T hS ⟨[(1, Pt 2 0), (25, B true)], [(2, (24, [I o_.States, I o_.Kinds, I o_.Init, Sl a1 o_.Rows c1]))]⟩ fun a hS => ?_
   exact ⟨ρ, _, true, hm, hS.sl _, hO, h1⟩
  ·replace hS := hS.lit (t := 11) kr hb
   replace hm := hm.2 hb
   refine oP T hS 3 ⟨[(1, Pt 2 0), (11, B false), (14, I (IntKind.i64.wrap (o_.Kinds - 1)))], [(2, (24, [I o_.States, I o_.Kinds, I o_.Init, Sl a1 o_.Rows c1]))]⟩ fun a hS => ?_
   refine op1 (call hS kr kr hb46 kr (fun _ _ => rfl) (k46 _ _ (IntKind.i64.wrap (o_.Kinds - 1)) 64) ?_)
   intro v118 a w119 χ120 hE hp hS
   replace hO := hO.mv hE rfl rfl
   replace h1 := h1.mv hE rfl
   clear hE
   obtain ⟨r121, hr⟩ : ∃ r, object_within (IntKind.i64.wrap (o_.Kinds - 1)) 64 = r := ⟨_, rfl⟩
   replace hm := hm r121 hr
   rw [hr] at hp
   clear hr
   subst hp
   refine oP T hS 3 ⟨[(1, Pt 2 0), (18, B (!r121))], [(2, (24, [I o_.States, I o_.Kinds, I o_.Init, Sl a1 o_.Rows c1]))]⟩ fun a hS => ?_
   rcases Bool.eq_false_or_eq_true (!r121) with hb | hb
   ·replace hS := hS.lit (t := 18) kr hb
    replace hm := hm.1 hb
    refine eP T hS ⟨[(1, Pt 2 0), (25, B true)], [(2, (24, [I o_.States, I o_.Kinds, I o_.Init, Sl a1 o_.Rows c1]))]⟩ fun a hS => ?_
    exact ⟨ρ, _, true, hm, hS.sl _, hO, h1⟩
   ·replace hS := hS.lit (t := 18) kr hb
    replace hm := hm.2 hb
    refine oP T hS 4 ⟨[(1, Pt 2 0), (18, B false), (20, I o_.Init), (22, I o_.States)], [(2, (24, [I o_.States, I o_.Kinds, I o_.Init, Sl a1 o_.Rows c1]))]⟩ fun a hS => ?_
    refine op1 (call hS kr kr hb46 kr (fun _ _ => rfl) (k46 _ _ o_.Init o_.States) ?_)
    intro v122 a w123 χ124 hE hp hS
    replace hO := hO.mv hE rfl rfl
    replace h1 := h1.mv hE rfl
    clear hE
    obtain ⟨r125, hr⟩ : ∃ r, object_within o_.Init o_.States = r := ⟨_, rfl⟩
    replace hm := hm r125 hr
    rw [hr] at hp
    clear hr
    subst hp
    refine eP T hS ⟨[(1, Pt 2 0), (25, B (!r125))], [(2, (24, [I o_.States, I o_.Kinds, I o_.Init, Sl a1 o_.Rows c1]))]⟩ fun a hS => ?_
    exact ⟨ρ, _, (!r125), hm, hS.sl _, hO, h1⟩
 ·rintro a w127 ⟨ρ, χ126, x_101, hm, hS, hO, h102⟩
  unfold VC30_J1 at hm
  refine wcond hS (b := x_101) kr (fun hb => ?_) (fun hb => ?_)
  ·replace hm := hm.1 hb
   refine rP T hS ⟨[(2, I (-1)), (3, I 2)], []⟩ fun a hS => ?_
   refine wret ?_
   exact fin T hS hO (fun c => c) rfl (r := [.int .i64 (-1), .int .i64 2]) kr (fun χ' hM hC => ⟨((-1), 2), hm, rfl⟩)
  ·replace hm := hm.2 hb
   refine wskip ?_
   refine wcut (fun a w => ∃ (ρ : Nat → Nat) (χ : Nat → Nat), VC30_J2 o_ Q ∧ St Try.f30.ntmps ⟨[(1, Pt 2 0)], [(2, (24, [I o_.States, I o_.Kinds, I o_.Init, Sl a1 o_.Rows c1]))]⟩ ρ a w χ ∧ Old w0 χ0 w χ ∧ RS tApi_Row w χ a1 o_.Rows c1) ?_ ?_
   ·refine rP T hS ⟨[(1, Pt 2 0), (28, I ((o_.Rows.length : Nat) : Int)), (29, I 0)], [(2, (24, [I o_.States, I o_.Kinds, I o_.Init, Sl a1 o_.Rows c1]))]⟩ fun a hS => ?_
    refine wblock ?_
    obtain ⟨I1, μ1, hm0, hm⟩ := hm
    refine wloop (σ := Int) (fun s a w => ∃ (ρ : Nat → Nat) (χ : Nat → Nat), I1 s ∧ St Try.f30.ntmps ⟨[(1, Pt 2 0), (28, I ((o_.Rows.length : Nat) : Int)), (29, I s)], [(2, (24, [I o_.States, I o_.Kinds, I o_.Init, Sl a1 o_.Rows c1]))]⟩ ρ a w χ ∧ Old w0 χ0 w χ ∧ RS tApi_Row w χ a1 o_.Rows c1) (fun s => μ1 s) (0) ?_ ?_
    ·exact ⟨ρ, _, hm0, hS.sl _, hO, h102⟩
    ·rintro x_104 a w111 ⟨ρ, χ110, hI, hS, hO, h105⟩
     replace hm := hm x_104 hI
     clear hI hm0
     refine rP T hS ⟨[(1, Pt 2 0), (28, I ((o_.Rows.length : Nat) : Int)), (29, I x_104), (30, B (decide (x_104 < ((o_.Rows.length : Nat) : Int))))], [(2, (24, [I o_.States, I o_.Kinds, I o_.Init, Sl a1 o_.Rows c1]))]⟩ fun a hS => ?_
     refine wseq ?_
     refine wcond hS (b := decide (x_104 < ((o_.Rows.length : Nat) : Int))) kr (fun hb => ?_) (fun hb => ?_)
     ·replace hm := hm.1 hb
      refine wskip ?_
      refine wseq ?_
      refine wblock ?_
      refine rP T hS ⟨[(1, Pt 2 0), (4, I x_104), (28, I ((o_.Rows.length : Nat) : Int)), (29, I x_104)], [(2, (24, [I o_.States, I o_.Kinds, I o_.Init, Sl a1 o_.Rows c1]))]⟩ fun a hS => ?_
      refine regO ?_
      refine oP T hS 2 ⟨[(1, Pt 2 0), (4, I x_104), (28, I ((o_.Rows.length : Nat) : Int)), (29, I x_104), (32, V (.agg #[.int .i64 o_.States, .int .i64 o_.Kinds, .int .i64 o_.Init, .slice a1 o_.Rows.length c1])), (33, I x_104)], [(2, (24, [I o_.States, I o_.Kinds, I o_.Init, Sl a1 o_.Rows c1]))]⟩ fun a hS => ?_
      obtain ⟨hq, hm⟩ := hm
      refine op1 (call hS kr kr hb47 kr (fun _ _ => rfl) (k47 _ _ o_ x_104 a1 c1 hq h105) ?_)
      intro v106 a w107 χ108 hE hp hS
      clear hq
      replace hO := hO.mv hE rfl rfl
      replace h105 := h105.mv hE rfl
      clear hE
      obtain ⟨r109, hr⟩ : ∃ r, object_row o_ x_104 = r := ⟨_, rfl⟩
      replace hm := hm r109 hr
      rw [hr] at hp
      clear hr
      subst hp
      refine eP T hS ⟨[(1, Pt 2 0), (4, I x_104), (5, I r109), (28, I ((o_.Rows.length : Nat) : Int)), (29, I x_104)], [(2, (24, [I o_.States, I o_.Kinds, I o_.Init, Sl a1 o_.Rows c1]))]⟩ fun a hS => ?_
      refine rP T hS ⟨[(1, Pt 2 0), (4, I x_104), (5, I r109), (28, I ((o_.Rows.length : Nat) : Int)), (29, I x_104), (36, B (r109 != 0))], [(2, (24, [I o_.States, I o_.Kinds, I o_.Init, Sl a1 o_.Rows c1]))]⟩ fun a hS => ?_
      refine wcond hS (b := (r109 != 0)) kr (fun hb => ?_) (fun hb => ?_)
      ·replace hm := hm.1 hb
       refine rP T hS ⟨[(2, I x_104), (3, I r109)], []⟩ fun a hS => ?_
       refine wret ?_
       exact fin T hS hO (fun c => c) rfl (r := [.int .i64 x_104, .int .i64 r109]) kr (fun χ' hM hC => ⟨(x_104, r109), hm, rfl⟩)
      ·replace hm := hm.2 hb
       refine wskip ?_
       refine region (eP T hS ⟨[(1, Pt 2 0), (28, I ((o_.Rows.length : Nat) : Int)), (29, I (IntKind.i64.wrap (x_104 + 1)))], [(2, (24, [I o_.States, I o_.Kinds, I o_.Init, Sl a1 o_.Rows c1]))]⟩ fun a hS => ?_)
       exact ⟨IntKind.i64.wrap (x_104 + 1), ⟨ρ, _, hm.1, hS.sl _, hO, h105⟩, hm.2⟩
     ·replace hm := hm.2 hb
      refine wexit (by rfl) ?_
      exact ⟨ρ, _, hm, hS.sl _, hO, h105⟩
   ·rintro a w113 ⟨ρ, χ112, hm, hS, hO, h103⟩
    unfold VC30_J2 at hm
    refine rP T hS ⟨[(2, I ((o_.Rows.length : Nat) : Int)), (3, I 0)], []⟩ fun a hS => ?_
    refine wret ?_
    exact fin T hS hO (fun c => c) rfl (r := [.int .i64 ((o_.Rows.length : Nat) : Int), .int .i64 0]) kr (fun χ' hM hC => ⟨(((o_.Rows.length : Nat) : Int), 0), hm, rfl⟩)
theorem C30 (k46 : S46) (k47 : S47) (v : ∀ (o_ : Api_Object), preO o_ → VC30 o_ (fun r => r = object_Check o_)) : S30 := by
 intro w χ o_ a1 c1   hp h1
 refine (W30 k46 k47 w χ o_ a1 c1   _ (v o_ hp) h1).mono ?_
 rintro _ _ _ _ ⟨r, rfl, h⟩
 exact h
/-- replevin/run.may -/
theorem W58 (k30 : S30) (w0 : World) (χ0 : Nat → Nat) (o_ : Api_Object) (state : Int) (a1 : Option Addr) (c1 : Nat) (Q : Int → Prop) (hm : VC58 o_ state Q) (h1 : RS tApi_Row w0 χ0 a1 o_.Rows c1) :
  Ret Try.prog 58 #[.agg #[.int .i64 o_.States, .int .i64 o_.Kinds, .int .i64 o_.Init, .slice a1 o_.Rows.length c1], .int .i64 state] xnone w0 χ0 (fun w χ' v => ∃ r, Q r ∧ v = .int .i64 r) := by
 unfold VC58 at hm
 replace hm := hm (h1.sm kr)
 refine enter Try.func58 rfl (vals := [.agg #[.int .i64 o_.States, .int .i64 o_.Kinds, .int .i64 o_.Init, .slice a1 o_.Rows.length c1], .int .i64 state]) kr ?_
 intro ρ a hS hO hM
 replace h1 := h1.m0 hM
 clear hM
 refine rM T hS ⟨[(1, I state), (2, Pt 3 0)], [(3, (24, [I o_.States, I o_.Kinds, I o_.Init, Sl a1 o_.Rows c1]))]⟩ fun ρ a w105 χ106 hS hE hr => ?_
 replace hO := hO.mv hE rfl rfl
 replace h1 := h1.mv hE rfl
 clear hE hr
 refine wseq ?_
 refine regO ?_
 refine oP T hS 1 ⟨[(1, I state), (2, Pt 3 0), (8, V (.agg #[.int .i64 o_.States, .int .i64 o_.Kinds, .int .i64 o_.Init, .slice a1 o_.Rows.length c1]))], [(3, (24, [I o_.States, I o_.Kinds, I o_.Init, Sl a1 o_.Rows c1]))]⟩ fun a hS => ?_
 obtain ⟨hq, hm⟩ := hm
 refine op1 (call hS kr kr hb30 kr (fun _ _ => rfl) (k30 _ _ o_ a1 c1 hq h1) ?_)
 intro v101 a w102 χ103 hE hp hS
 clear hq
 replace hO := hO.mv hE rfl rfl
 replace h1 := h1.mv hE rfl
 clear hE
 obtain ⟨r104, hr⟩ : ∃ r, object_Check o_ = r := ⟨_, rfl⟩
 replace hm := hm r104 hr
 rw [hr] at hp
 clear hr
 subst hp
 refine eP T hS ⟨[(1, I state), (2, Pt 3 0), (6, I r104.2)], [(3, (24, [I o_.States, I o_.Kinds, I o_.Init, Sl a1 o_.Rows c1]))]⟩ fun a hS => ?_
 refine rP T hS ⟨[(1, I state), (2, Pt 3 0), (13, B (r104.2 != 0))], [(3, (24, [I o_.States, I o_.Kinds, I o_.Init, Sl a1 o_.Rows c1]))]⟩ fun a hS => ?_
 refine wcond hS (b := (r104.2 != 0)) kr (fun hb => ?_) (fun hb => ?_)
 ·replace hm := hm.1 hb
  refine rP T hS ⟨[(4, I 2)], []⟩ fun a hS => ?_
  refine wret ?_
  exact fin T hS hO (fun c => c) rfl (r := [.int .i64 2]) kr (fun χ' hM hC => ⟨2, hm, rfl⟩)
 ·replace hm := hm.2 hb
  refine wskip ?_
  refine wseq ?_
  refine rP T hS ⟨[(21, B ((decide (state < 0)) || (decide (state ≥ o_.States))))], []⟩ (sp := [16]) fun a hS => ?_
  refine wcond hS (b := ((decide (state < 0)) || (decide (state ≥ o_.States)))) kr (fun hb => ?_) (fun hb => ?_)
  ·replace hm := hm.1 hb
   refine rP T hS ⟨[(4, I 30)], []⟩ fun a hS => ?_
   refine wret ?_
   exact fin T hS hO (fun c => c) rfl (r := [.int .i64 30]) kr (fun χ' hM hC => ⟨30, hm, rfl⟩)
  ·replace hm := hm.2 hb
   refine wskip ?_
   refine rP T hS ⟨[(4, I 0)], []⟩ fun a hS => ?_
   refine wret ?_
   exact fin T hS hO (fun c => c) rfl (r := [.int .i64 0]) kr (fun χ' hM hC => ⟨0, hm, rfl⟩)
theorem C58 (k30 : S30) (v : ∀ (o_ : Api_Object) (state : Int), preO1 o_ state → VC58 o_ state (fun r => r = run_may o_ state)) : S58 := by
 intro w χ o_ state a1 c1   hp h1
 refine (W58 k30 w χ o_ state a1 c1   _ (v o_ state hp) h1).mono ?_
 rintro _ _ _ _ ⟨r, rfl, h⟩
 exact h
/-- replevin/run.runner -/
theorem W59 (w0 : World) (χ0 : Nat → Nat) (o_ : Api_Object) (l_ : List Api_Oper) (state : Int) (a1 : Option Addr) (c1 : Nat) (a2 : Option Addr) (c2 : Nat) (col1 : Nat) (col2 : Nat) (col3 : Nat) (col4 : Nat) (col5 : Nat) (Q : (List Api_Oper) × (List (Int × Int)) × Api_Object × Int → Prop) (hm : VC59 o_ l_ state Q) (h1 : RS tApi_Row w0 χ0 a1 o_.Rows c1) (h2 : RS tApi_Oper w0 χ0 a2 l_ c2) :
  Ret Try.prog 59 #[.agg #[.int .i64 o_.States, .int .i64 o_.Kinds, .int .i64 o_.Init, .slice a1 o_.Rows.length c1], .slice a2 l_.length c2, .int .i64 state] xnone w0 χ0 (fun w χ' v => ∃ r, Q r ∧ ∃ (ra1 : Option Addr) (rc1 : Nat) (rr2 : Nat) (ra3 : Option Addr) (rc3 : Nat) (rb1 : Nat) (rb2 : Nat) (rb3 : Nat) (rb4 : Nat), v = .func (.func 63) #[] #[.pointer (some ⟨rb1, 0, none⟩), .pointer (some ⟨rb2, 0, none⟩), .pointer (some ⟨rb3, 0, none⟩), .pointer (some ⟨rb4, 0, none⟩)] ∧ RS tApi_Oper w χ' ra1 r.1 rc1 ∧ RS tApi_Row w χ' ra3 r.2.2.1.Rows rc3 ∧ Cell w χ' rb1 col2 25 [.slice ra1 r.1.length rc1] ∧ Cell w χ' rb2 col3 96 [.map (some rr2)] ∧ OM kI tI false w χ' col1 rr2 r.2.1 ∧ Cell w χ' rb3 col4 24 [.int .i64 r.2.2.1.States, .int .i64 r.2.2.1.Kinds, .int .i64 r.2.2.1.Init, .slice ra3 r.2.2.1.Rows.length rc3] ∧ Cell w χ' rb4 col5 3 [.int .i64 r.2.2.2]) := by
 unfold VC59 at hm
 replace hm := hm (h1.sm kr)
 replace hm := hm (h2.sm kr)
 refine enter Try.func59 rfl (vals := [.agg #[.int .i64 o_.States, .int .i64 o_.Kinds, .int .i64 o_.Init, .slice a1 o_.Rows.length c1], .slice a2 l_.length c2, .int .i64 state]) kr ?_
 intro ρ a hS hO hM
 replace h1 := h1.m0 hM
 replace h2 := h2.m0 hM
 clear hM
 refine rM T hS ⟨[(3, Pt 4 0), (4, Pt 5 0), (5, Pt 6 0)], [(4, (24, [I o_.States, I o_.Kinds, I o_.Init, Sl a1 o_.Rows c1])), (5, (25, [Sl a2 l_ c2])), (6, (3, [I state]))]⟩ fun ρ a w107 χ108 hS hE hr => ?_
 replace hO := hO.mv hE rfl rfl
 replace h1 := h1.mv hE rfl
 replace h2 := h2.mv hE rfl
 clear hE hr
 refine regO ?_
 refine op1 (mkmap kI tI false 1009 hS kr kr ?_)
 intro r101 a w102 χ103 hE h104 hS
 replace hO := hO.mv hE rfl rfl
 replace h1 := h1.mv hE rfl
 replace h2 := h2.mv hE rfl
 clear hE
 refine eM T hS ⟨[(3, Pt 4 0), (4, Pt 5 0), (5, Pt 6 0), (7, Pt 8 0)], [(4, (24, [I o_.States, I o_.Kinds, I o_.Init, Sl a1 o_.Rows c1])), (5, (25, [Sl a2 l_ c2])), (6, (3, [I state])), (8, (96, [V (.map (some r101))]))]⟩ fun ρ a w105 χ106 hS hE hr => ?_
 replace hO := hO.mv hE rfl rfl
 replace h1 := h1.mv hE rfl
 replace h2 := h2.mv hE rfl
 replace h104 := h104.mv hE rfl rfl
 clear hE hr
 refine rP T hS ⟨[(6, .f (.func 63) [] [.p 5 0, .p 8 0, .p 4 0, .p 6 0])], [(4, (24, [I o_.States, I o_.Kinds, I o_.Init, Sl a1 o_.Rows c1])), (5, (25, [Sl a2 l_ c2])), (6, (3, [I state])), (8, (96, [V (.map (some r101))]))]⟩ fun a hS => ?_
 refine wret ?_
 exact fin T hS hO (fun c => (bif Nat.beq c 6 then col5 else (bif Nat.beq c 4 then col4 else (bif Nat.beq c 8 then col3 else (bif Nat.beq c 5 then col2 else (bif Nat.beq c 1009 then col1 else c)))))) rfl (r := [.func (.func 63) #[] #[.pointer (some ⟨ρ 5, 0, none⟩), .pointer (some ⟨ρ 8, 0, none⟩), .pointer (some ⟨ρ 4, 0, none⟩), .pointer (some ⟨ρ 6, 0, none⟩)]]) kr (fun χ' hM hC => ⟨(l_, ([] : List (Int × Int)), o_, state), hm, a2, c2, r101, a1, c1, (ρ 5), (ρ 8), (ρ 4), (ρ 6), rfl, h2.m0 hM, h1.m0 hM, ((hS.cell (id := 5) (t := 25) (cs := [Sl a2 l_ c2]) kr).out (f := (fun c => (bif Nat.beq c 6 then col5 else (bif Nat.beq c 4 then col4 else (bif Nat.beq c 8 then col3 else (bif Nat.beq c 5 then col2 else (bif Nat.beq c 1009 then col1 else c))))))) hC kr kr rfl), ((hS.cell (id := 8) (t := 96) (cs := [V (.map (some r101))]) kr).out (f := (fun c => (bif Nat.beq c 6 then col5 else (bif Nat.beq c 4 then col4 else (bif Nat.beq c 8 then col3 else (bif Nat.beq c 5 then col2 else (bif Nat.beq c 1009 then col1 else c))))))) hC kr kr rfl), (h104.out (f := (fun c => (bif Nat.beq c 6 then col5 else (bif Nat.beq c 4 then col4 else (bif Nat.beq c 8 then col3 else (bif Nat.beq c 5 then col2 else (bif Nat.beq c 1009 then col1 else c))))))) hM hC kr kr), ((hS.cell (id := 4) (t := 24) (cs := [I o_.States, I o_.Kinds, I o_.Init, Sl a1 o_.Rows c1]) kr).out (f := (fun c => (bif Nat.beq c 6 then col5 else (bif Nat.beq c 4 then col4 else (bif Nat.beq c 8 then col3 else (bif Nat.beq c 5 then col2 else (bif Nat.beq c 1009 then col1 else c))))))) hC kr kr rfl), ((hS.cell (id := 6) (t := 3) (cs := [I state]) kr).out (f := (fun c => (bif Nat.beq c 6 then col5 else (bif Nat.beq c 4 then col4 else (bif Nat.beq c 8 then col3 else (bif Nat.beq c 5 then col2 else (bif Nat.beq c 1009 then col1 else c))))))) hC kr kr rfl)⟩)
theorem C59 (v : ∀ (o_ : Api_Object) (l_ : List Api_Oper) (state : Int), VC59 o_ l_ state (fun r => r = run_runner o_ l_ state)) : S59 := by
 intro w χ o_ l_ state a1 c1 a2 c2 col1 col2 col3 col4 col5  h1 h2
 refine (W59 w χ o_ l_ state a1 c1 a2 c2 col1 col2 col3 col4 col5  _ (v o_ l_ state) h1 h2).mono ?_
 rintro _ _ _ _ ⟨r, rfl, h⟩
 exact h
/-- replevin/object.Move$1 -/
theorem W50 (w0 : World) (χ0 : Nat → Nat) (r_ : Api_Row) (cap1 : Int) (cap2 : Int) (b1 : Nat) (i1 : Nat) (b2 : Nat) (i2 : Nat) (Q : Bool → Prop) (hm : VC50 r_ cap1 cap2 Q) (hc1 : Cell w0 χ0 b1 i1 3 [.int .i64 cap1]) (hc2 : Cell w0 χ0 b2 i2 3 [.int .i64 cap2]) (hA : Apart [i1, i2]) :
  Ret Try.prog 50 #[.agg #[.int .i64 r_.State, .int .i64 r_.Kind, .int .i64 r_.Next, .int .i64 r_.Result], .pointer (some ⟨b1, 0, none⟩), .pointer (some ⟨b2, 0, none⟩)] (pR [i1, i2]) w0 χ0 (fun w χ' v => ∃ r, Q r ∧ v = .bool r ∧ Cell w χ' b1 i1 3 [.int .i64 cap1] ∧ Cell w χ' b2 i2 3 [.int .i64 cap2]) := by
 unfold VC50 at hm
 refine enterR Try.func50 rfl (f0of [(i1, 901), (i2, 902)]) (fun id => (bif Nat.beq id 901 then b1 else (bif Nat.beq id 902 then b2 else 0))) (args := [V (.agg #[.int .i64 r_.State, .int .i64 r_.Kind, .int .i64 r_.Next, .int .i64 r_.Result]), Pt 901 0, Pt 902 0]) (bxs := [(901, (3, [I cap1])), (902, (3, [I cap2]))]) kr rfl (BoxesOK.cons kr (hc1.map (f0of_at 0 hA.1 rfl)) (BoxesOK.cons kr (hc2.map (f0of_at 1 hA.1 rfl)) BoxesOK.nil)) (f0of_0 (fun q hq => (hA.2 q.1 (List.mem_map.2 ⟨q, hq, rfl⟩)).1)) ?_
 intro a hS hO hM
 have hP : Pin [(901, b1), (902, b2)] (fun id => (bif Nat.beq id 901 then b1 else (bif Nat.beq id 902 then b2 else 0))) := by intro q hq; simp at hq; rcases hq with rfl | rfl <;> rfl
 generalize (fun id => (bif Nat.beq id 901 then b1 else (bif Nat.beq id 902 then b2 else 0))) = ρ at hS hP
 clear hc1 hc2
 clear hM
 refine rM T hS ⟨[(1, Pt 901 0), (2, Pt 902 0), (3, Pt 4 0)], [(4, (67, [I r_.State, I r_.Kind, I r_.Next, I r_.Result])), (901, (3, [I cap1])), (902, (3, [I cap2]))]⟩ fun ρ a w101 χ102 hS hE hr => ?_
 replace hO := hO.mv hE rfl rfl
 replace hP := hP.mv hr kr
 clear hE hr
 refine regO ?_
 refine oP T hS 8 ⟨[(5, V (.agg #[.int .i64 r_.State, .int .i64 r_.Kind, .int .i64 r_.Next, .int .i64 r_.Result])), (12, V (.agg #[.int .i64 cap1, .int .i64 cap2, .int .i64 r_.Next, .int .i64 r_.Result]))], [(901, (3, [I cap1])), (902, (3, [I cap2]))]⟩ fun a hS => ?_
 refine op1 (structEq (op := .eql) (xs := [.int .i64 r_.State, .int .i64 r_.Kind, .int .i64 r_.Next, .int .i64 r_.Result]) (ys := [.int .i64 cap1, .int .i64 cap2, .int .i64 r_.Next, .int .i64 r_.Result]) (r := (r_.State == cap1 && (r_.Kind == cap2 && (r_.Next == r_.Next && (r_.Result == r_.Result && true))))) (b := (r_.State == cap1 && (r_.Kind == cap2 && (r_.Next == r_.Next && (r_.Result == r_.Result && true))))) T hS kr kr kr kr kr kr kr kr ?_)
 intro a hS
 refine eP T hS ⟨[(4, B (r_.State == cap1 && (r_.Kind == cap2 && (r_.Next == r_.Next && (r_.Result == r_.Result && true)))))], [(901, (3, [I cap1])), (902, (3, [I cap2]))]⟩ fun a hS => ?_
 refine wret ?_
 exact finR T hS hO (fun c h => f0of_zero kr h) (fun c h => f0of_else (l := [(i1, 901), (i2, 902)]) h) (f1of [(i1, 901), (i2, 902)]) rfl (r := [.bool (r_.State == cap1 && (r_.Kind == cap2 && (r_.Next == r_.Next && (r_.Result == r_.Result && true))))]) kr (fun χ' hM hC => ⟨(r_.State == cap1 && (r_.Kind == cap2 && (r_.Next == r_.Next && (r_.Result == r_.Result && true)))), hm, rfl, ((hS.cell (id := 901) (t := 3) (cs := [I cap1]) kr).out (f := (f1of [(i1, 901), (i2, 902)])) hC kr kr (hP.at 0 rfl)), ((hS.cell (id := 902) (t := 3) (cs := [I cap2]) kr).out (f := (f1of [(i1, 901), (i2, 902)])) hC kr kr (hP.at 1 rfl))⟩)
theorem C50 (v : ∀ (r_ : Api_Row) (cap1 : Int) (cap2 : Int), VC50 r_ cap1 cap2 (fun r => r = object_Move_1 r_ cap1 cap2)) : S50 := by
 intro w χ r_ cap1 cap2   b1 i1 b2 i2 hc1 hc2 hA
 refine (W50 w χ r_ cap1 cap2   b1 i1 b2 i2 _ (v r_ cap1 cap2) hc1 hc2 hA).mono ?_
 rintro _ _ _ _ ⟨r, rfl, h⟩
 exact h
/-- slices.IndexFunc[[]replevin/api.Row,replevin/api.Row] -/
theorem W51_50 (k50 : S50) (w0 : World) (χ0 : Nat → Nat) (s_ : List Api_Row) (cap1 : Int) (cap2 : Int) (a1 : Option Addr) (c1 : Nat) (b1 : Nat) (i1 : Nat) (b2 : Nat) (i2 : Nat) (Q : Int → Prop) (hm : VC51_50 s_ cap1 cap2 Q) (h1 : RS tApi_Row w0 χ0 a1 s_ c1) (hc1 : Cell w0 χ0 b1 i1 3 [.int .i64 cap1]) (hc2 : Cell w0 χ0 b2 i2 3 [.int .i64 cap2]) (hA : Apart [i1, i2]) :
  Ret Try.prog 51 #[.slice a1 s_.length c1, .func (.func 50) #[] #[.pointer (some ⟨b1, 0, none⟩), .pointer (some ⟨b2, 0, none⟩)]] (pR [i1, i2]) w0 χ0 (fun w χ' v => ∃ r, Q r ∧ v = .int .i64 r ∧ Cell w χ' b1 i1 3 [.int .i64 cap1] ∧ Cell w χ' b2 i2 3 [.int .i64 cap2]) := by
 unfold VC51_50 at hm
 replace hm := hm (h1.sm kr)
 refine enterR Try.func51 rfl (f0of [(i1, 901), (i2, 902)]) (fun id => (bif Nat.beq id 901 then b1 else (bif Nat.beq id 902 then b2 else 0))) (args := [Sl a1 s_ c1, .f (.func 50) [] [.p 901 0, .p 902 0]]) (bxs := [(901, (3, [I cap1])), (902, (3, [I cap2]))]) kr rfl (BoxesOK.cons kr (hc1.map (f0of_at 0 hA.1 rfl)) (BoxesOK.cons kr (hc2.map (f0of_at 1 hA.1 rfl)) BoxesOK.nil)) (f0of_0 (fun q hq => (hA.2 q.1 (List.mem_map.2 ⟨q, hq, rfl⟩)).1)) ?_
 intro a hS hO hM
 have hP : Pin [(901, b1), (902, b2)] (fun id => (bif Nat.beq id 901 then b1 else (bif Nat.beq id 902 then b2 else 0))) := by intro q hq; simp at hq; rcases hq with rfl | rfl <;> rfl
 generalize (fun id => (bif Nat.beq id 901 then b1 else (bif Nat.beq id 902 then b2 else 0))) = ρ at hS hP
 clear hc1 hc2
 replace h1 := h1.m0 hM
 clear hM
 refine rP T hS ⟨[(0, Sl a1 s_ c1), (1, .f (.func 50) [] [.p 901 0, .p 902 0])], [(901, (3, [I cap1])), (902, (3, [I cap2]))]⟩ fun a hS => ?_
 refine wcut (fun a w => ∃ (ρ : Nat → Nat) (χ : Nat → Nat), VC51_50_J1 Q ∧ St Try.f51.ntmps ⟨[], [(901, (3, [I cap1])), (902, (3, [I cap2]))]⟩ ρ a w χ ∧ OldR (f0of [(i1, 901), (i2, 902)]) w0 χ0 w χ ∧ Pin [(901, b1), (902, b2)] ρ) ?_ ?_
 ·refine rP T hS ⟨[(0, Sl a1 s_ c1), (1, .f (.func 50) [] [.p 901 0, .p 902 0]), (7, I ((s_.length : Nat) : Int)), (8, I 0)], [(901, (3, [I cap1])), (902, (3, [I cap2]))]⟩ fun a hS => ?_
  refine wblock ?_
  obtain ⟨I1, μ1, hm0, hm⟩ := hm
  refine wloop (σ := Int) (fun s a w => ∃ (ρ : Nat → Nat) (χ : Nat → Nat), I1 s ∧ St Try.f51.ntmps ⟨[(0, Sl a1 s_ c1), (1, .f (.func 50) [] [.p 901 0, .p 902 0]), (7, I ((s_.length : Nat) : Int)), (8, I s)], [(901, (3, [I cap1])), (902, (3, [I cap2]))]⟩ ρ a w χ ∧ OldR (f0of [(i1, 901), (i2, 902)]) w0 χ0 w χ ∧ Pin [(901, b1), (902, b2)] ρ ∧ RS tApi_Row w χ a1 s_ c1) (fun s => μ1 s) (0) ?_ ?_
  ·exact ⟨ρ, _, hm0, hS.sl _, hO, hP, h1⟩
  ·rintro x_102 a w113 ⟨ρ, χ112, hI, hS, hO, hP, h101⟩
   replace hm := hm x_102 hI
   clear hI hm0
   refine rP T hS ⟨[(0, Sl a1 s_ c1), (1, .f (.func 50) [] [.p 901 0, .p 902 0]), (7, I ((s_.length : Nat) : Int)), (8, I x_102), (9, B (decide (x_102 < ((s_.length : Nat) : Int))))], [(901, (3, [I cap1])), (902, (3, [I cap2]))]⟩ fun a hS => ?_
   refine wseq ?_
   refine wcond hS (b := decide (x_102 < ((s_.length : Nat) : Int))) kr (fun hb => ?_) (fun hb => ?_)
   ·replace hm := hm.1 hb
    refine wskip ?_
    refine wseq ?_
    refine wblock ?_
    refine rP T hS ⟨[(0, Sl a1 s_ c1), (1, .f (.func 50) [] [.p 901 0, .p 902 0]), (5, I x_102), (7, I ((s_.length : Nat) : Int)), (8, I x_102)], [(901, (3, [I cap1])), (902, (3, [I cap2]))]⟩ fun a hS => ?_
    refine regO ?_
    refine oP T hS 3 ⟨[(0, Sl a1 s_ c1), (1, .f (.func 50) [] [.p 901 0, .p 902 0]), (5, I x_102), (7, I ((s_.length : Nat) : Int)), (8, I x_102), (11, .f (.func 50) [] [.p 901 0, .p 902 0]), (12, Sl a1 s_ c1), (13, I x_102)], [(901, (3, [I cap1])), (902, (3, [I cap2]))]⟩ fun a hS => ?_
    obtain ⟨hq, hm⟩ := hm
    refine op1 (index (e := 67) (k := .i64) T hS kr kr kr kr h101 kr kr hq.1 hq.2 ?_)
    intro A103 a h104 hS
    clear hq
    refine op1 (loadA T hS kr kr kr h104 kr kr ?_)
    intro v105 a hv hS
    subst hv
    refine op1 (callCR (fi := []) (cp := [.p 901 0, .p 902 0]) hS kr kr hb50 kr kr (k50 _ _ (gi s_ x_102) cap1 cap2 (ρ 901) 901 (ρ 902) 902 (hS.cell (id := 901) (t := 3) (cs := [I cap1]) kr) (hS.cell (id := 902) (t := 3) (cs := [I cap2]) kr) ⟨by decide, by decide⟩) ?_)
    intro v106 a w107 χ108 hE hp hS
    replace hO := hO.mv hE rfl rfl
    replace h101 := h101.mv hE rfl
    replace h104 := h104.mv hE rfl
    clear hE
    obtain ⟨hp, hc110, hc111⟩ := hp
    obtain ⟨r109, hr⟩ : ∃ r, object_Move_1 (gi s_ x_102) cap1 cap2 = r := ⟨_, rfl⟩
    replace hm := hm r109 hr
    rw [hr] at hp
    clear hr
    subst hp
    replace hS := hS.addbox (id := 901) (t := 3) (cs := [I cap1]) kr hc110
    replace hS := hS.addbox (id := 902) (t := 3) (cs := [I cap2]) kr hc111
    clear hc110 hc111
    refine doneK ?_
    refine wcond hS (b := r109) kr (fun hb => ?_) (fun hb => ?_)
    ·replace hm := hm.1 hb
     refine rP T hS ⟨[(4, I x_102)], [(901, (3, [I cap1])), (902, (3, [I cap2]))]⟩ fun a hS => ?_
     refine wret ?_
     exact finR T hS hO (fun c h => f0of_zero kr h) (fun c h => f0of_else (l := [(i1, 901), (i2, 902)]) h) (f1of [(i1, 901), (i2, 902)]) rfl (r := [.int .i64 x_102]) kr (fun χ' hM hC => ⟨x_102, hm, rfl, ((hS.cell (id := 901) (t := 3) (cs := [I cap1]) kr).out (f := (f1of [(i1, 901), (i2, 902)])) hC kr kr (hP.at 0 rfl)), ((hS.cell (id := 902) (t := 3) (cs := [I cap2]) kr).out (f := (f1of [(i1, 901), (i2, 902)])) hC kr kr (hP.at 1 rfl))⟩)
    ·replace hm := hm.2 hb
     refine wskip ?_
     refine region (eP T hS ⟨[(0, Sl a1 s_ c1), (1, .f (.func 50) [] [.p 901 0, .p 902 0]), (7, I ((s_.length : Nat) : Int)), (8, I (IntKind.i64.wrap (x_102 + 1)))], [(901, (3, [I cap1])), (902, (3, [I cap2]))]⟩ fun a hS => ?_)
     exact ⟨IntKind.i64.wrap (x_102 + 1), ⟨ρ, _, hm.1, hS.sl _, hO, hP, h101⟩, hm.2⟩
   ·replace hm := hm.2 hb
    refine wexit (by rfl) ?_
    exact ⟨ρ, _, hm, hS.sl _, hO, hP⟩
 ·rintro a w115 ⟨ρ, χ114, hm, hS, hO, hP⟩
  unfold VC51_50_J1 at hm
  refine rP T hS ⟨[(4, I (-1))], [(901, (3, [I cap1])), (902, (3, [I cap2]))]⟩ fun a hS => ?_
  refine wret ?_
  exact finR T hS hO (fun c h => f0of_zero kr h) (fun c h => f0of_else (l := [(i1, 901), (i2, 902)]) h) (f1of [(i1, 901), (i2, 902)]) rfl (r := [.int .i64 (-1)]) kr (fun χ' hM hC => ⟨(-1), hm, rfl, ((hS.cell (id := 901) (t := 3) (cs := [I cap1]) kr).out (f := (f1of [(i1, 901), (i2, 902)])) hC kr kr (hP.at 0 rfl)), ((hS.cell (id := 902) (t := 3) (cs := [I cap2]) kr).out (f := (f1of [(i1, 901), (i2, 902)])) hC kr kr (hP.at 1 rfl))⟩)
theorem C51_50 (k50 : S50) (v : ∀ (s_ : List Api_Row) (cap1 : Int) (cap2 : Int), VC51_50 s_ cap1 cap2 (fun r => r = slices_IndexFunc_api_Row_api_Row_object_Move_1 s_ cap1 cap2)) : S51_50 := by
 intro w χ s_ cap1 cap2 a1 c1  b1 i1 b2 i2 h1 hc1 hc2 hA
 refine (W51_50 k50 w χ s_ cap1 cap2 a1 c1  b1 i1 b2 i2 _ (v s_ cap1 cap2) h1 hc1 hc2 hA).mono ?_
 rintro _ _ _ _ ⟨r, rfl, h⟩
 exact h
/-- replevin/object.Move -/
theorem W32 (k51_50 : S51_50) (w0 : World) (χ0 : Nat → Nat) (o_ : Api_Object) (state : Int) (kind : Int) (a1 : Option Addr) (c1 : Nat) (Q : Int × Int × Bool → Prop) (hm : VC32 o_ state kind Q) (h1 : RS tApi_Row w0 χ0 a1 o_.Rows c1) :
  Ret Try.prog 32 #[.agg #[.int .i64 o_.States, .int .i64 o_.Kinds, .int .i64 o_.Init, .slice a1 o_.Rows.length c1], .int .i64 state, .int .i64 kind] xnone w0 χ0 (fun w χ' v => ∃ r, Q r ∧ v = .tuple #[.int .i64 r.1, .int .i64 r.2.1, .bool r.2.2]) := by
 unfold VC32 at hm
 replace hm := hm (h1.sm kr)
 refine enter Try.func32 rfl (vals := [.agg #[.int .i64 o_.States, .int .i64 o_.Kinds, .int .i64 o_.Init, .slice a1 o_.Rows.length c1], .int .i64 state, .int .i64 kind]) kr ?_
 intro ρ a hS hO hM
 replace h1 := h1.m0 hM
 clear hM
 refine rM T hS ⟨[(3, Pt 4 0), (4, Pt 5 0), (5, Pt 6 0)], [(4, (24, [I o_.States, I o_.Kinds, I o_.Init, Sl a1 o_.Rows c1])), (5, (3, [I state])), (6, (3, [I kind]))]⟩ fun ρ a w119 χ120 hS hE hr => ?_
 replace hO := hO.mv hE rfl rfl
 replace h1 := h1.mv hE rfl
 clear hE hr
 refine rP T hS ⟨[(3, Pt 4 0), (9, .f (.func 50) [] [.p 5 0, .p 6 0])], [(4, (24, [I o_.States, I o_.Kinds, I o_.Init, Sl a1 o_.Rows c1])), (5, (3, [I state])), (6, (3, [I kind]))]⟩ fun a hS => ?_
 refine regO ?_
 refine oP T hS 3 ⟨[(3, Pt 4 0), (13, Sl a1 o_.Rows c1), (14, .f (.func 50) [] [.p 5 0, .p 6 0])], [(4, (24, [I o_.States, I o_.Kinds, I o_.Init, Sl a1 o_.Rows c1])), (5, (3, [I state])), (6, (3, [I kind]))]⟩ fun a hS => ?_
 refine op1 (callR hS kr kr hb51 kr (k51_50 _ _ o_.Rows state kind a1 c1 (ρ 5) 5 (ρ 6) 6 h1 (hS.cell (id := 5) (t := 3) (cs := [I state]) kr) (hS.cell (id := 6) (t := 3) (cs := [I kind]) kr) ⟨by decide, by decide⟩) ?_)
 intro v101 a w102 χ103 hE hp hS
 replace hO := hO.mv hE rfl rfl
 replace h1 := h1.mv hE rfl
 clear hE
 obtain ⟨hp, hc105, hc106⟩ := hp
 obtain ⟨r104, hr⟩ : ∃ r, slices_IndexFunc_api_Row_api_Row_object_Move_1 o_.Rows state kind = r := ⟨_, rfl⟩
 replace hm := hm r104 hr
 rw [hr] at hp
 clear hr
 subst hp
 replace hS := hS.addbox (id := 5) (t := 3) (cs := [I state]) kr hc105
 replace hS := hS.addbox (id := 6) (t := 3) (cs := [I kind]) kr hc106
 clear hc105 hc106
 refine eP T hS ⟨[(3, Pt 4 0), (10, I r104)], [(4, (24, [I o_.States, I o_.Kinds, I o_.Init, Sl a1 o_.Rows c1]))]⟩ fun a hS => ?_
 refine wseq ?_
 refine rP T hS ⟨[(3, Pt 4 0), (10, I r104), (17, B (decide (r104 < 0)))], [(4, (24, [I o_.States, I o_.Kinds, I o_.Init, Sl a1 o_.Rows c1]))]⟩ fun a hS => ?_
 refine wcond hS (b := decide (r104 < 0)) kr (fun hb => ?_) (fun hb => ?_)
 ·replace hm := hm.1 hb
  refine rP T hS ⟨[(6, I 0), (7, I 0), (8, B false)], []⟩ fun a hS => ?_
  refine wret ?_
  exact fin T hS hO (fun c => c) rfl (r := [.int .i64 0, .int .i64 0, .bool false]) kr (fun χ' hM hC => ⟨(0, 0, false), hm, rfl⟩)
 ·replace hm := hm.2 hb
  refine wskip ?_
  refine drawnSX [4] mixed hS ?_
  intro w107 χ108 hS hE hD hH
  replace hO := hO.mv hE rfl rfl
  replace h1 := h1.mv hE rfl
  clear hE
  refine tk T [0, 2, 6, 8, 1, 7] [4] hS hH #[true, true, true, false, false, false, true, true, true, false, false, false, false, false, false] 9 ⟨[(19, Sl a1 o_.Rows c1), (20, I r104), (25, Sl a1 o_.Rows c1), (26, I r104)], [(4, (24, [I o_.States, I o_.Kinds, I o_.Init, Sl a1 o_.Rows c1]))]⟩ fun a hS => ?_
  obtain ⟨hq, hm⟩ := hm
  refine dindex (e := 67) (k := .i64) T 3 hS kr kr kr (by rfl) kr hH kr kr h1 kr kr hq.1 hq.2 ?_
  intro A109 a h110 hS
  clear hq
  have h110b := h110.here
  refine dfieldA (off := 2) (fsz := 1) (ft := 3) (TF := tI) (y := (gi o_.Rows r104).Next) 4 T hS kr kr kr (by rfl) kr hH kr h110 kr kr kr (fun cs h => Api_Row_f2 h) ?_
  intro A111 a h112 hbl hS
  have h112b := h110b
  rw [← hbl] at h112b
  clear hbl
  refine dload1 T 5 hS kr kr kr (by rfl) kr hH kr h112 h112b rfl kr ?_
  intro v113 a hv hS
  cases hv
  refine tk T [12] [4] hS hH #[true, true, true, true, true, true, true, true, true, false, false, false, true, false, false] 5 ⟨[(6, I ((gi o_.Rows r104).Next)), (25, Sl a1 o_.Rows c1), (26, I r104)], [(4, (24, [I o_.States, I o_.Kinds, I o_.Init, Sl a1 o_.Rows c1]))]⟩ fun a hS => ?_
  obtain ⟨hq, hm⟩ := hm
  refine dindex (e := 67) (k := .i64) T 9 hS kr kr kr (by rfl) kr hH kr kr h1 kr kr hq.1 hq.2 ?_
  intro A114 a h115 hS
  clear hq
  have h115b := h115.here
  refine dfieldA (off := 3) (fsz := 1) (ft := 3) (TF := tI) (y := (gi o_.Rows r104).Result) 10 T hS kr kr kr (by rfl) kr hH kr h115 kr kr kr (fun cs h => Api_Row_f3 h) ?_
  intro A116 a h117 hbl hS
  have h117b := h115b
  rw [← hbl] at h117b
  clear hbl
  refine dload1 T 11 hS kr kr kr (by rfl) kr hH kr h117 h117b rfl kr ?_
  intro v118 a hv hS
  cases hv
  refine tk T [13, 14] [4] hS hH #[true, true, true, true, true, true, true, true, true, true, true, true, true, true, true] 0 ⟨[(6, I ((gi o_.Rows r104).Next)), (7, I ((gi o_.Rows r104).Result)), (8, B true)], [(4, (24, [I o_.States, I o_.Kinds, I o_.Init, Sl a1 o_.Rows c1]))]⟩ fun a hS => ?_
  refine drawnDone kr ?_
  clear hD hH
  replace hS := hS.sl ⟨[(6, I ((gi o_.Rows r104).Next)), (7, I ((gi o_.Rows r104).Result)), (8, B true)], []⟩
  refine wret ?_
  exact fin T hS hO (fun c => c) rfl (r := [.int .i64 ((gi o_.Rows r104).Next), .int .i64 ((gi o_.Rows r104).Result), .bool true]) kr (fun χ' hM hC => ⟨((gi o_.Rows r104).Next, (gi o_.Rows r104).Result, true), hm, rfl⟩)
theorem C32 (k51_50 : S51_50) (v : ∀ (o_ : Api_Object) (state : Int) (kind : Int), VC32 o_ state kind (fun r => r = object_Move o_ state kind)) : S32 := by
 intro w χ o_ state kind a1 c1   h1
 refine (W32 k51_50 w χ o_ state kind a1 c1   _ (v o_ state kind) h1).mono ?_
 rintro _ _ _ _ ⟨r, rfl, h⟩
 exact h
/-- (replevin/run.table).move -/
theorem W67 (k32 : S32) (w0 : World) (χ0 : Nat → Nat) (t_ : Run_table) (state : Int) (kind : Int) (a1 : Option Addr) (c1 : Nat) (Q : Int × Int × Bool → Prop) (hm : VC67 t_ state kind Q) (h1 : RS tApi_Row w0 χ0 a1 t_.o.Rows c1) :
  Ret Try.prog 67 #[.agg #[.int .i64 t_.o.States, .int .i64 t_.o.Kinds, .int .i64 t_.o.Init, .slice a1 t_.o.Rows.length c1], .int .i64 state, .int .i64 kind] xnone w0 χ0 (fun w χ' v => ∃ r, Q r ∧ v = .tuple #[.int .i64 r.1, .int .i64 r.2.1, .bool r.2.2]) := by
 unfold VC67 at hm
 replace hm := hm (h1.sm kr)
 refine enter Try.func67 rfl (vals := [.agg #[.int .i64 t_.o.States, .int .i64 t_.o.Kinds, .int .i64 t_.o.Init, .slice a1 t_.o.Rows.length c1], .int .i64 state, .int .i64 kind]) kr ?_
 intro ρ a hS hO hM
 replace h1 := h1.m0 hM
 clear hM
 refine rM T hS ⟨[(1, I state), (2, I kind), (3, Pt 4 0)], [(4, (113, [I t_.o.States, I t_.o.Kinds, I t_.o.Init, Sl a1 t_.o.Rows c1]))]⟩ fun ρ a w105 χ106 hS hE hr => ?_
 replace hO := hO.mv hE rfl rfl
 replace h1 := h1.mv hE rfl
 clear hE hr
 refine regO ?_
 refine oP T hS 4 ⟨[(10, V (.agg #[.int .i64 t_.o.States, .int .i64 t_.o.Kinds, .int .i64 t_.o.Init, .slice a1 t_.o.Rows.length c1])), (11, I state), (12, I kind)], []⟩ fun a hS => ?_
 refine op1 (call hS kr kr hb32 kr (fun _ _ => rfl) (k32 _ _ t_.o state kind a1 c1 h1) ?_)
 intro v101 a w102 χ103 hE hp hS
 replace hO := hO.mv hE rfl rfl
 replace h1 := h1.mv hE rfl
 clear hE
 obtain ⟨r104, hr⟩ : ∃ r, object_Move t_.o state kind = r := ⟨_, rfl⟩
 replace hm := hm r104 hr
 rw [hr] at hp
 clear hr
 subst hp
 refine eP T hS ⟨[(6, I r104.1), (7, I r104.2.1), (8, B r104.2.2)], []⟩ fun a hS => ?_
 refine wret ?_
 exact fin T hS hO (fun c => c) rfl (r := [.int .i64 r104.1, .int .i64 r104.2.1, .bool r104.2.2]) kr (fun χ' hM hC => ⟨(r104.1, r104.2.1, r104.2.2), hm, rfl⟩)
theorem C67 (k32 : S32) (v : ∀ (t_ : Run_table) (state : Int) (kind : Int), VC67 t_ state kind (fun r => r = run_table_move t_ state kind)) : S67 := by
 intro w χ t_ state kind a1 c1   h1
 refine (W67 k32 w χ t_ state kind a1 c1   _ (v t_ state kind) h1).mono ?_
 rintro _ _ _ _ ⟨r, rfl, h⟩
 exact h
/-- replevin/run.Step -/
theorem W64 (k67 : S67) (w0 : World) (χ0 : Nat → Nat) (o_ : Api_Object) (state : Int) (kind : Int) (result : Int) (a1 : Option Addr) (c1 : Nat) (Q : Int × Int → Prop) (hm : VC64 o_ state kind result Q) (h1 : RS tApi_Row w0 χ0 a1 o_.Rows c1) :
  Ret Try.prog 64 #[.agg #[.int .i64 o_.States, .int .i64 o_.Kinds, .int .i64 o_.Init, .slice a1 o_.Rows.length c1], .int .i64 state, .int .i64 kind, .int .i64 result] xnone w0 χ0 (fun w χ' v => ∃ r, Q r ∧ v = .tuple #[.int .i64 r.1, .int .i64 r.2]) := by
 unfold VC64 at hm
 replace hm := hm (h1.sm kr)
 refine enter Try.func64 rfl (vals := [.agg #[.int .i64 o_.States, .int .i64 o_.Kinds, .int .i64 o_.Init, .slice a1 o_.Rows.length c1], .int .i64 state, .int .i64 kind, .int .i64 result]) kr ?_
 intro ρ a hS hO hM
 replace h1 := h1.m0 hM
 clear hM
 refine rM T hS ⟨[(1, I state), (2, I kind), (3, I result), (4, Pt 5 0)], [(5, (24, [I o_.States, I o_.Kinds, I o_.Init, Sl a1 o_.Rows c1]))]⟩ fun ρ a w105 χ106 hS hE hr => ?_
 replace hO := hO.mv hE rfl rfl
 replace h1 := h1.mv hE rfl
 clear hE hr
 refine wseq ?_
 refine rP T hS ⟨[(1, I state), (2, I kind), (3, I result), (4, Pt 5 0), (20, B ((decide (state < 0)) || (decide (state ≥ o_.States))))], [(5, (24, [I o_.States, I o_.Kinds, I o_.Init, Sl a1 o_.Rows c1]))]⟩ (sp := [15]) fun a hS => ?_
 refine wcond hS (b := ((decide (state < 0)) || (decide (state ≥ o_.States)))) kr (fun hb => ?_) (fun hb => ?_)
 ·replace hm := hm.1 hb
  refine rP T hS ⟨[(8, I 0), (9, I 30)], []⟩ fun a hS => ?_
  refine wret ?_
  exact fin T hS hO (fun c => c) rfl (r := [.int .i64 0, .int .i64 30]) kr (fun χ' hM hC => ⟨(0, 30), hm, rfl⟩)
 ·replace hm := hm.2 hb
  refine wskip ?_
  refine rP T hS ⟨[(1, I state), (2, I kind), (3, I result), (10, .f (.func 67) [.v (.agg #[.int .i64 o_.States, .int .i64 o_.Kinds, .int .i64 o_.Init, .slice a1 o_.Rows.length c1])] [])], []⟩ fun a hS => ?_
  refine regO ?_
  refine oP T hS 3 ⟨[(3, I result), (25, .f (.func 67) [.v (.agg #[.int .i64 o_.States, .int .i64 o_.Kinds, .int .i64 o_.Init, .slice a1 o_.Rows.length c1])] []), (26, I state), (27, I kind)], []⟩ fun a hS => ?_
  refine op1 (callC (fi := [.v (.agg #[.int .i64 o_.States, .int .i64 o_.Kinds, .int .i64 o_.Init, .slice a1 o_.Rows.length c1])]) (cp := []) hS kr kr hb67 kr kr (fun _ _ => rfl) (k67 _ _ (⟨o_⟩ : Run_table) state kind a1 c1 h1) ?_)
  intro v101 a w102 χ103 hE hp hS
  replace hO := hO.mv hE rfl rfl
  replace h1 := h1.mv hE rfl
  clear hE
  obtain ⟨r104, hr⟩ : ∃ r, run_table_move (⟨o_⟩ : Run_table) state kind = r := ⟨_, rfl⟩
  replace hm := hm r104 hr
  rw [hr] at hp
  clear hr
  subst hp
  refine eP T hS ⟨[(3, I result), (8, I r104.1), (11, I r104.2.1), (12, B r104.2.2)], []⟩ fun a hS => ?_
  refine wseq ?_
  refine rP T hS ⟨[(8, I r104.1), (38, B ((!r104.2.2) || (r104.2.1 != result)))], []⟩ (sp := [34]) fun a hS => ?_
  refine wcond hS (b := ((!r104.2.2) || (r104.2.1 != result))) kr (fun hb => ?_) (fun hb => ?_)
  ·replace hm := hm.1 hb
   refine rP T hS ⟨[(8, I 0), (9, I 40)], []⟩ fun a hS => ?_
   refine wret ?_
   exact fin T hS hO (fun c => c) rfl (r := [.int .i64 0, .int .i64 40]) kr (fun χ' hM hC => ⟨(0, 40), hm, rfl⟩)
  ·replace hm := hm.2 hb
   refine wskip ?_
   refine rP T hS ⟨[(8, I r104.1), (9, I 0)], []⟩ fun a hS => ?_
   refine wret ?_
   exact fin T hS hO (fun c => c) rfl (r := [.int .i64 r104.1, .int .i64 0]) kr (fun χ' hM hC => ⟨(r104.1, 0), hm, rfl⟩)
theorem C64 (k67 : S67) (v : ∀ (o_ : Api_Object) (state : Int) (kind : Int) (result : Int), VC64 o_ state kind result (fun r => r = run_Step o_ state kind result)) : S64 := by
 intro w χ o_ state kind result a1 c1   h1
 refine (W64 k67 w χ o_ state kind result a1 c1   _ (v o_ state kind result) h1).mono ?_
 rintro _ _ _ _ ⟨r, rfl, h⟩
 exact h
/-- replevin/run.runner$1 -/
theorem W63 (k64 : S64) (w0 : World) (χ0 : Nat → Nat) (p_ : Api_Pick) (cap1 : List Api_Oper) (cap2 : List (Int × Int)) (cap3 : Api_Object) (cap4 : Int) (a1 : Option Addr) (c1 : Nat) (r2 : Nat) (m2 : Nat) (a3 : Option Addr) (c3 : Nat) (b1 : Nat) (i1 : Nat) (b2 : Nat) (i2 : Nat) (b3 : Nat) (i3 : Nat) (b4 : Nat) (i4 : Nat) (Q : Int × Int × (List (Int × Int)) × Int → Prop) (hm : VC63 p_ cap1 cap2 cap3 cap4 Q) (h1 : RS tApi_Oper w0 χ0 a1 cap1 c1) (h2 : OM kI tI false w0 χ0 m2 r2 cap2) (h3 : RS tApi_Row w0 χ0 a3 cap3.Rows c3) (hc1 : Cell w0 χ0 b1 i1 25 [.slice a1 cap1.length c1]) (hc2 : Cell w0 χ0 b2 i2 96 [.map (some r2)]) (hc3 : Cell w0 χ0 b3 i3 24 [.int .i64 cap3.States, .int .i64 cap3.Kinds, .int .i64 cap3.Init, .slice a3 cap3.Rows.length c3]) (hc4 : Cell w0 χ0 b4 i4 3 [.int .i64 cap4]) (hA : Apart [i1, i2, i3, i4, m2]) :
  Ret Try.prog 63 #[.agg #[.int .i64 p_.Oper, .int .i64 p_.Result], .pointer (some ⟨b1, 0, none⟩), .pointer (some ⟨b2, 0, none⟩), .pointer (some ⟨b3, 0, none⟩), .pointer (some ⟨b4, 0, none⟩)] (pR [i1, i2, i3, i4, m2]) w0 χ0 (fun w χ' v => ∃ r, Q r ∧ v = .tuple #[.int .i64 r.1, .int .i64 r.2.1] ∧ Cell w χ' b1 i1 25 [.slice a1 cap1.length c1] ∧ Cell w χ' b2 i2 96 [.map (some r2)] ∧ OM kI tI false w χ' m2 r2 r.2.2.1 ∧ Cell w χ' b3 i3 24 [.int .i64 cap3.States, .int .i64 cap3.Kinds, .int .i64 cap3.Init, .slice a3 cap3.Rows.length c3] ∧ Cell w χ' b4 i4 3 [.int .i64 r.2.2.2]) := by
 unfold VC63 at hm
 replace hm := hm (h1.sm kr)
 replace hm := hm (h3.sm kr)
 refine enterR Try.func63 rfl (f0of [(i1, 901), (i2, 902), (i3, 903), (i4, 904), (m2, 2002)]) (fun id => (bif Nat.beq id 901 then b1 else (bif Nat.beq id 902 then b2 else (bif Nat.beq id 903 then b3 else (bif Nat.beq id 904 then b4 else 0))))) (args := [V (.agg #[.int .i64 p_.Oper, .int .i64 p_.Result]), Pt 901 0, Pt 902 0, Pt 903 0, Pt 904 0]) (bxs := [(901, (25, [Sl a1 cap1 c1])), (902, (96, [V (.map (some r2))])), (903, (24, [I cap3.States, I cap3.Kinds, I cap3.Init, Sl a3 cap3.Rows c3])), (904, (3, [I cap4]))]) kr rfl (BoxesOK.cons kr (hc1.map (f0of_at 0 hA.1 rfl)) (BoxesOK.cons kr (hc2.map (f0of_at 1 hA.1 rfl)) (BoxesOK.cons kr (hc3.map (f0of_at 2 hA.1 rfl)) (BoxesOK.cons kr (hc4.map (f0of_at 3 hA.1 rfl)) BoxesOK.nil)))) (f0of_0 (fun q hq => (hA.2 q.1 (List.mem_map.2 ⟨q, hq, rfl⟩)).1)) ?_
 intro a hS hO hM
 have hP : Pin [(901, b1), (902, b2), (903, b3), (904, b4)] (fun id => (bif Nat.beq id 901 then b1 else (bif Nat.beq id 902 then b2 else (bif Nat.beq id 903 then b3 else (bif Nat.beq id 904 then b4 else 0))))) := by intro q hq; simp at hq; rcases hq with rfl | rfl | rfl | rfl <;> rfl
 generalize (fun id => (bif Nat.beq id 901 then b1 else (bif Nat.beq id 902 then b2 else (bif Nat.beq id 903 then b3 else (bif Nat.beq id 904 then b4 else 0))))) = ρ at hS hP
 clear hc1 hc2 hc3 hc4
 replace h1 := h1.m0 hM
 replace h2 := h2.map (f := f0of [(i1, 901), (i2, 902), (i3, 903), (i4, 904), (m2, 2002)]) (f0of_at 4 hA.1 rfl) hM
 replace h3 := h3.m0 hM
 clear hM
 refine rM T hS ⟨[(1, Pt 901 0), (2, Pt 902 0), (3, Pt 903 0), (4, Pt 904 0), (5, Pt 6 0)], [(6, (51, [I p_.Oper, I p_.Result])), (901, (25, [Sl a1 cap1 c1])), (902, (96, [V (.map (some r2))])), (903, (24, [I cap3.States, I cap3.Kinds, I cap3.Init, Sl a3 cap3.Rows c3])), (904, (3, [I cap4]))]⟩ fun ρ a w122 χ123 hS hE hr => ?_
 replace hO := hO.mv hE rfl rfl
 replace h1 := h1.mv hE rfl
 replace h2 := h2.mv hE rfl rfl
 replace h3 := h3.mv hE rfl
 replace hP := hP.mv hr kr
 clear hE hr
 refine wseq ?_
 refine wblock ?_
 refine rP T hS ⟨[(1, Pt 901 0), (2, Pt 902 0), (3, Pt 903 0), (4, Pt 904 0), (5, Pt 6 0), (11, B ((decide (p_.Oper < 0)) || (decide (p_.Oper ≥ ((cap1.length : Nat) : Int)))))], [(6, (51, [I p_.Oper, I p_.Result])), (901, (25, [Sl a1 cap1 c1])), (902, (96, [V (.map (some r2))])), (903, (24, [I cap3.States, I cap3.Kinds, I cap3.Init, Sl a3 cap3.Rows c3])), (904, (3, [I cap4]))]⟩ (sp := [15]) fun a hS => ?_
 refine wcond hS (b := ((decide (p_.Oper < 0)) || (decide (p_.Oper ≥ ((cap1.length : Nat) : Int))))) kr (fun hb => ?_) (fun hb => ?_)
 ·replace hm := hm.1 hb
  refine rP T hS ⟨[(6, I 0), (7, I 2)], [(901, (25, [Sl a1 cap1 c1])), (902, (96, [V (.map (some r2))])), (903, (24, [I cap3.States, I cap3.Kinds, I cap3.Init, Sl a3 cap3.Rows c3])), (904, (3, [I cap4]))]⟩ fun a hS => ?_
  refine wret ?_
  exact finR T hS hO (fun c h => f0of_zero kr h) (fun c h => f0of_else (l := [(i1, 901), (i2, 902), (i3, 903), (i4, 904), (m2, 2002)]) h) (f1of [(i1, 901), (i2, 902), (i3, 903), (i4, 904), (m2, 2002)]) rfl (r := [.int .i64 0, .int .i64 2]) kr (fun χ' hM hC => ⟨(0, 2, cap2, cap4), hm, rfl, ((hS.cell (id := 901) (t := 25) (cs := [Sl a1 cap1 c1]) kr).out (f := (f1of [(i1, 901), (i2, 902), (i3, 903), (i4, 904), (m2, 2002)])) hC kr kr (hP.at 0 rfl)), ((hS.cell (id := 902) (t := 96) (cs := [V (.map (some r2))]) kr).out (f := (f1of [(i1, 901), (i2, 902), (i3, 903), (i4, 904), (m2, 2002)])) hC kr kr (hP.at 1 rfl)), (h2.out (f := (f1of [(i1, 901), (i2, 902), (i3, 903), (i4, 904), (m2, 2002)])) hM hC kr kr), ((hS.cell (id := 903) (t := 24) (cs := [I cap3.States, I cap3.Kinds, I cap3.Init, Sl a3 cap3.Rows c3]) kr).out (f := (f1of [(i1, 901), (i2, 902), (i3, 903), (i4, 904), (m2, 2002)])) hC kr kr (hP.at 2 rfl)), ((hS.cell (id := 904) (t := 3) (cs := [I cap4]) kr).out (f := (f1of [(i1, 901), (i2, 902), (i3, 903), (i4, 904), (m2, 2002)])) hC kr kr (hP.at 3 rfl))⟩)
 ·replace hm := hm.2 hb
  refine regO ?_
  refine oP T hS 3 ⟨[(1, Pt 901 0), (2, Pt 902 0), (3, Pt 903 0), (4, Pt 904 0), (5, Pt 6 0), (23, V (.map (some r2))), (25, I p_.Oper)], [(6, (51, [I p_.Oper, I p_.Result])), (901, (25, [Sl a1 cap1 c1])), (902, (96, [V (.map (some r2))])), (903, (24, [I cap3.States, I cap3.Kinds, I cap3.Init, Sl a3 cap3.Rows c3])), (904, (3, [I cap4]))]⟩ fun a hS => ?_
  refine op1 (mlook kI tI false (zv := .int .i64 0) (z := 0) p_.Oper hS kr kr kr kr Try.underlying96 Try.underlying3 kr rfl h2 ?_)
  intro v101 a hv hS
  replace hv : tI.R _ _ [v101] _ := hv
  cases hv
  refine eP T hS ⟨[(1, Pt 901 0), (2, Pt 902 0), (3, Pt 903 0), (4, Pt 904 0), (5, Pt 6 0), (22, B (decide (((mget cap2 p_.Oper).getD 0) > 0)))], [(6, (51, [I p_.Oper, I p_.Result])), (901, (25, [Sl a1 cap1 c1])), (902, (96, [V (.map (some r2))])), (903, (24, [I cap3.States, I cap3.Kinds, I cap3.Init, Sl a3 cap3.Rows c3])), (904, (3, [I cap4]))]⟩ fun a hS => ?_
  refine wcond hS (b := decide (((mget cap2 p_.Oper).getD 0) > 0)) kr (fun hb => ?_) (fun hb => ?_)
  ·replace hm := hm.1 hb
   refine rP T hS ⟨[(6, I 0), (7, I 21)], [(901, (25, [Sl a1 cap1 c1])), (902, (96, [V (.map (some r2))])), (903, (24, [I cap3.States, I cap3.Kinds, I cap3.Init, Sl a3 cap3.Rows c3])), (904, (3, [I cap4]))]⟩ fun a hS => ?_
   refine wret ?_
   exact finR T hS hO (fun c h => f0of_zero kr h) (fun c h => f0of_else (l := [(i1, 901), (i2, 902), (i3, 903), (i4, 904), (m2, 2002)]) h) (f1of [(i1, 901), (i2, 902), (i3, 903), (i4, 904), (m2, 2002)]) rfl (r := [.int .i64 0, .int .i64 21]) kr (fun χ' hM hC => ⟨(0, 21, cap2, cap4), hm, rfl, ((hS.cell (id := 901) (t := 25) (cs := [Sl a1 cap1 c1]) kr).out (f := (f1of [(i1, 901), (i2, 902), (i3, 903), (i4, 904), (m2, 2002)])) hC kr kr (hP.at 0 rfl)), ((hS.cell (id := 902) (t := 96) (cs := [V (.map (some r2))]) kr).out (f := (f1of [(i1, 901), (i2, 902), (i3, 903), (i4, 904), (m2, 2002)])) hC kr kr (hP.at 1 rfl)), (h2.out (f := (f1of [(i1, 901), (i2, 902), (i3, 903), (i4, 904), (m2, 2002)])) hM hC kr kr), ((hS.cell (id := 903) (t := 24) (cs := [I cap3.States, I cap3.Kinds, I cap3.Init, Sl a3 cap3.Rows c3]) kr).out (f := (f1of [(i1, 901), (i2, 902), (i3, 903), (i4, 904), (m2, 2002)])) hC kr kr (hP.at 2 rfl)), ((hS.cell (id := 904) (t := 3) (cs := [I cap4]) kr).out (f := (f1of [(i1, 901), (i2, 902), (i3, 903), (i4, 904), (m2, 2002)])) hC kr kr (hP.at 3 rfl))⟩)
  ·replace hm := hm.2 hb
   refine wskip ?_
   refine regO ?_
   refine oP T hS 3 ⟨[(1, Pt 901 0), (3, Pt 903 0), (4, Pt 904 0), (5, Pt 6 0), (28, V (.map (some r2))), (30, I p_.Oper)], [(6, (51, [I p_.Oper, I p_.Result])), (901, (25, [Sl a1 cap1 c1])), (902, (96, [V (.map (some r2))])), (903, (24, [I cap3.States, I cap3.Kinds, I cap3.Init, Sl a3 cap3.Rows c3])), (904, (3, [I cap4]))]⟩ fun a hS => ?_
   refine op1 (mlook kI tI false (zv := .int .i64 0) (z := 0) p_.Oper hS kr kr kr kr Try.underlying96 Try.underlying3 kr rfl h2 ?_)
   intro v102 a hv hS
   replace hv : tI.R _ _ [v102] _ := hv
   cases hv
   refine oP T hS 1 ⟨[(1, Pt 901 0), (3, Pt 903 0), (4, Pt 904 0), (5, Pt 6 0), (28, V (.map (some r2))), (30, I p_.Oper), (32, I (IntKind.i64.wrap (((mget cap2 p_.Oper).getD 0) + 1)))], [(6, (51, [I p_.Oper, I p_.Result])), (901, (25, [Sl a1 cap1 c1])), (902, (96, [V (.map (some r2))])), (903, (24, [I cap3.States, I cap3.Kinds, I cap3.Init, Sl a3 cap3.Rows c3])), (904, (3, [I cap4]))]⟩ fun a hS => ?_
   refine op1 (mset kI tI false (v := I (IntKind.i64.wrap (((mget cap2 p_.Oper).getD 0) + 1))) (u := IntKind.i64.wrap (((mget cap2 p_.Oper).getD 0) + 1)) p_.Oper hS kr kr kr kr Try.underlying96 Try.underlying3 kr h2 rfl ?_)
   intro a w103 hE h104 hS
   clear h2
   replace hO := hO.mv hE rfl rfl
   replace h1 := h1.mv hE rfl
   replace h3 := h3.mv hE rfl
   clear hE
   refine doneK ?_
   refine regO ?_
   refine oP T hS 3 ⟨[(3, Pt 903 0), (4, Pt 904 0), (5, Pt 6 0), (33, Sl a1 cap1 c1), (35, I p_.Oper)], [(6, (51, [I p_.Oper, I p_.Result])), (901, (25, [Sl a1 cap1 c1])), (902, (96, [V (.map (some r2))])), (903, (24, [I cap3.States, I cap3.Kinds, I cap3.Init, Sl a3 cap3.Rows c3])), (904, (3, [I cap4]))]⟩ fun a hS => ?_
   obtain ⟨hq, hm⟩ := hm
   refine op1 (index (e := 45) (k := .i64) T hS kr kr kr kr h1 kr kr hq.1 hq.2 ?_)
   intro A105 a h106 hS
   clear hq
   refine op1 (loadA T hS kr kr kr h106 kr kr ?_)
   intro v107 a hv hS
   subst hv
   refine eM T hS ⟨[(3, Pt 903 0), (4, Pt 904 0), (5, Pt 6 0), (8, Pt 9 0)], [(6, (51, [I p_.Oper, I p_.Result])), (9, (45, [I ((gi cap1 p_.Oper).Prc), I ((gi cap1 p_.Oper).Kind), I ((gi cap1 p_.Oper).Start), I ((gi cap1 p_.Oper).End), I ((gi cap1 p_.Oper).Result)])), (901, (25, [Sl a1 cap1 c1])), (902, (96, [V (.map (some r2))])), (903, (24, [I cap3.States, I cap3.Kinds, I cap3.Init, Sl a3 cap3.Rows c3])), (904, (3, [I cap4]))]⟩ fun ρ a w120 χ121 hS hE hr => ?_
   replace hO := hO.mv hE rfl rfl
   replace h1 := h1.mv hE rfl
   replace h3 := h3.mv hE rfl
   replace h104 := h104.mv hE rfl rfl
   replace hP := hP.mv hr kr
   clear hE hr
   refine regO ?_
   refine oP T hS 6 ⟨[(4, Pt 904 0), (5, Pt 6 0), (8, Pt 9 0), (39, V (.agg #[.int .i64 cap3.States, .int .i64 cap3.Kinds, .int .i64 cap3.Init, .slice a3 cap3.Rows.length c3])), (40, I cap4), (42, I ((gi cap1 p_.Oper).Kind)), (44, I p_.Result)], [(6, (51, [I p_.Oper, I p_.Result])), (9, (45, [I ((gi cap1 p_.Oper).Prc), I ((gi cap1 p_.Oper).Kind), I ((gi cap1 p_.Oper).Start), I ((gi cap1 p_.Oper).End), I ((gi cap1 p_.Oper).Result)])), (901, (25, [Sl a1 cap1 c1])), (902, (96, [V (.map (some r2))])), (903, (24, [I cap3.States, I cap3.Kinds, I cap3.Init, Sl a3 cap3.Rows c3])), (904, (3, [I cap4]))]⟩ fun a hS => ?_
   refine op1 (call hS kr kr hb64 kr (fun _ _ => rfl) (k64 _ _ cap3 cap4 ((gi cap1 p_.Oper).Kind) p_.Result a3 c3 h3) ?_)
   intro v108 a w109 χ110 hE hp hS
   replace hO := hO.mv hE rfl rfl
   replace h1 := h1.mv hE rfl
   replace h3 := h3.mv hE rfl
   replace h104 := h104.mv hE rfl rfl
   clear hE
   obtain ⟨r111, hr⟩ : ∃ r, run_Step cap3 cap4 ((gi cap1 p_.Oper).Kind) p_.Result = r := ⟨_, rfl⟩
   replace hm := hm r111 hr
   rw [hr] at hp
   clear hr
   subst hp
   refine eP T hS ⟨[(4, Pt 904 0), (5, Pt 6 0), (8, Pt 9 0), (9, I r111.1), (10, I r111.2)], [(6, (51, [I p_.Oper, I p_.Result])), (9, (45, [I ((gi cap1 p_.Oper).Prc), I ((gi cap1 p_.Oper).Kind), I ((gi cap1 p_.Oper).Start), I ((gi cap1 p_.Oper).End), I ((gi cap1 p_.Oper).Result)])), (901, (25, [Sl a1 cap1 c1])), (902, (96, [V (.map (some r2))])), (903, (24, [I cap3.States, I cap3.Kinds, I cap3.Init, Sl a3 cap3.Rows c3])), (904, (3, [I cap4]))]⟩ fun a hS => ?_
   refine wcut (fun a w => ∃ (ρ : Nat → Nat) (χ : Nat → Nat) (e_112 : Int), VC63_J1 p_ cap2 cap4 Q r111 e_112 ∧ St Try.f63.ntmps ⟨[(4, Pt 904 0), (9, I r111.1), (10, I e_112)], [(901, (25, [Sl a1 cap1 c1])), (902, (96, [V (.map (some r2))])), (903, (24, [I cap3.States, I cap3.Kinds, I cap3.Init, Sl a3 cap3.Rows c3])), (904, (3, [I cap4]))]⟩ ρ a w χ ∧ OldR (f0of [(i1, 901), (i2, 902), (i3, 903), (i4, 904), (m2, 2002)]) w0 χ0 w χ ∧ Pin [(901, b1), (902, b2), (903, b3), (904, b4)] ρ ∧ RS tApi_Oper w χ a1 cap1 c1 ∧ OM kI tI false w χ 2002 r2 (mput cap2 p_.Oper (IntKind.i64.wrap (((mget cap2 p_.Oper).getD 0) + 1))) ∧ RS tApi_Row w χ a3 cap3.Rows c3) ?_ ?_
   ·refine rP T hS ⟨[(4, Pt 904 0), (9, I r111.1), (10, I r111.2), (61, B (((r111.2 == 0) && (((gi cap1 p_.Oper).End) != (-1))) && (((gi cap1 p_.Oper).Result) != p_.Result)))], [(901, (25, [Sl a1 cap1 c1])), (902, (96, [V (.map (some r2))])), (903, (24, [I cap3.States, I cap3.Kinds, I cap3.Init, Sl a3 cap3.Rows c3])), (904, (3, [I cap4]))]⟩ (sp := [50, 55]) fun a hS => ?_
    refine wcond hS (b := (((r111.2 == 0) && (((gi cap1 p_.Oper).End) != (-1))) && (((gi cap1 p_.Oper).Result) != p_.Result))) kr (fun hb => ?_) (fun hb => ?_)
    ·replace hm := hm.1 hb
     refine region (eP T hS ⟨[(4, Pt 904 0), (9, I r111.1), (10, I 40)], [(901, (25, [Sl a1 cap1 c1])), (902, (96, [V (.map (some r2))])), (903, (24, [I cap3.States, I cap3.Kinds, I cap3.Init, Sl a3 cap3.Rows c3])), (904, (3, [I cap4]))]⟩ fun a hS => ?_)
     exact ⟨ρ, _, 40, hm, hS.sl _, hO, hP, h1, h104, h3⟩
    ·replace hm := hm.2 hb
     refine wskip ?_
     exact ⟨ρ, _, r111.2, hm, hS.sl _, hO, hP, h1, h104, h3⟩
   ·rintro a w119 ⟨ρ, χ118, e_112, hm, hS, hO, hP, h113, h114, h115⟩
    unfold VC63_J1 at hm
    refine wseq ?_
    refine rP T hS ⟨[(4, Pt 904 0), (9, I r111.1), (10, I e_112), (63, B (e_112 != 0))], [(901, (25, [Sl a1 cap1 c1])), (902, (96, [V (.map (some r2))])), (903, (24, [I cap3.States, I cap3.Kinds, I cap3.Init, Sl a3 cap3.Rows c3])), (904, (3, [I cap4]))]⟩ fun a hS => ?_
    refine wcond hS (b := (e_112 != 0)) kr (fun hb => ?_) (fun hb => ?_)
    ·replace hm := hm.1 hb
     refine rP T hS ⟨[(6, I 0), (7, I e_112)], [(901, (25, [Sl a1 cap1 c1])), (902, (96, [V (.map (some r2))])), (903, (24, [I cap3.States, I cap3.Kinds, I cap3.Init, Sl a3 cap3.Rows c3])), (904, (3, [I cap4]))]⟩ fun a hS => ?_
     refine wret ?_
     exact finR T hS hO (fun c h => f0of_zero kr h) (fun c h => f0of_else (l := [(i1, 901), (i2, 902), (i3, 903), (i4, 904), (m2, 2002)]) h) (f1of [(i1, 901), (i2, 902), (i3, 903), (i4, 904), (m2, 2002)]) rfl (r := [.int .i64 0, .int .i64 e_112]) kr (fun χ' hM hC => ⟨(0, e_112, mput cap2 p_.Oper (IntKind.i64.wrap (((mget cap2 p_.Oper).getD 0) + 1)), cap4), hm, rfl, ((hS.cell (id := 901) (t := 25) (cs := [Sl a1 cap1 c1]) kr).out (f := (f1of [(i1, 901), (i2, 902), (i3, 903), (i4, 904), (m2, 2002)])) hC kr kr (hP.at 0 rfl)), ((hS.cell (id := 902) (t := 96) (cs := [V (.map (some r2))]) kr).out (f := (f1of [(i1, 901), (i2, 902), (i3, 903), (i4, 904), (m2, 2002)])) hC kr kr (hP.at 1 rfl)), (h114.out (f := (f1of [(i1, 901), (i2, 902), (i3, 903), (i4, 904), (m2, 2002)])) hM hC kr kr), ((hS.cell (id := 903) (t := 24) (cs := [I cap3.States, I cap3.Kinds, I cap3.Init, Sl a3 cap3.Rows c3]) kr).out (f := (f1of [(i1, 901), (i2, 902), (i3, 903), (i4, 904), (m2, 2002)])) hC kr kr (hP.at 2 rfl)), ((hS.cell (id := 904) (t := 3) (cs := [I cap4]) kr).out (f := (f1of [(i1, 901), (i2, 902), (i3, 903), (i4, 904), (m2, 2002)])) hC kr kr (hP.at 3 rfl))⟩)
    ·replace hm := hm.2 hb
     refine wskip ?_
     refine rM T hS ⟨[(9, I r111.1)], [(901, (25, [Sl a1 cap1 c1])), (902, (96, [V (.map (some r2))])), (903, (24, [I cap3.States, I cap3.Kinds, I cap3.Init, Sl a3 cap3.Rows c3])), (904, (3, [I r111.1]))]⟩ fun ρ a w116 χ117 hS hE hr => ?_
     replace hO := hO.mv hE rfl rfl
     replace h113 := h113.mv hE rfl
     replace h114 := h114.mv hE rfl rfl
     replace h115 := h115.mv hE rfl
     replace hP := hP.mv hr kr
     clear hE hr
     refine rP T hS ⟨[(6, I r111.1), (7, I 0)], [(901, (25, [Sl a1 cap1 c1])), (902, (96, [V (.map (some r2))])), (903, (24, [I cap3.States, I cap3.Kinds, I cap3.Init, Sl a3 cap3.Rows c3])), (904, (3, [I r111.1]))]⟩ fun a hS => ?_
     refine wret ?_
     exact finR T hS hO (fun c h => f0of_zero kr h) (fun c h => f0of_else (l := [(i1, 901), (i2, 902), (i3, 903), (i4, 904), (m2, 2002)]) h) (f1of [(i1, 901), (i2, 902), (i3, 903), (i4, 904), (m2, 2002)]) rfl (r := [.int .i64 r111.1, .int .i64 0]) kr (fun χ' hM hC => ⟨(r111.1, 0, mput cap2 p_.Oper (IntKind.i64.wrap (((mget cap2 p_.Oper).getD 0) + 1)), r111.1), hm, rfl, ((hS.cell (id := 901) (t := 25) (cs := [Sl a1 cap1 c1]) kr).out (f := (f1of [(i1, 901), (i2, 902), (i3, 903), (i4, 904), (m2, 2002)])) hC kr kr (hP.at 0 rfl)), ((hS.cell (id := 902) (t := 96) (cs := [V (.map (some r2))]) kr).out (f := (f1of [(i1, 901), (i2, 902), (i3, 903), (i4, 904), (m2, 2002)])) hC kr kr (hP.at 1 rfl)), (h114.out (f := (f1of [(i1, 901), (i2, 902), (i3, 903), (i4, 904), (m2, 2002)])) hM hC kr kr), ((hS.cell (id := 903) (t := 24) (cs := [I cap3.States, I cap3.Kinds, I cap3.Init, Sl a3 cap3.Rows c3]) kr).out (f := (f1of [(i1, 901), (i2, 902), (i3, 903), (i4, 904), (m2, 2002)])) hC kr kr (hP.at 2 rfl)), ((hS.cell (id := 904) (t := 3) (cs := [I r111.1]) kr).out (f := (f1of [(i1, 901), (i2, 902), (i3, 903), (i4, 904), (m2, 2002)])) hC kr kr (hP.at 3 rfl))⟩)
theorem C63 (k64 : S64) (v : ∀ (p_ : Api_Pick) (cap1 : List Api_Oper) (cap2 : List (Int × Int)) (cap3 : Api_Object) (cap4 : Int), VC63 p_ cap1 cap2 cap3 cap4 (fun r => r = run_runner_1 p_ cap1 cap2 cap3 cap4)) : S63 := by
 intro w χ p_ cap1 cap2 cap3 cap4 a1 c1 r2 m2 a3 c3  b1 i1 b2 i2 b3 i3 b4 i4 h1 h2 h3 hc1 hc2 hc3 hc4 hA
 refine (W63 k64 w χ p_ cap1 cap2 cap3 cap4 a1 c1 r2 m2 a3 c3  b1 i1 b2 i2 b3 i3 b4 i4 _ (v p_ cap1 cap2 cap3 cap4) h1 h2 h3 hc1 hc2 hc3 hc4 hA).mono ?_
 rintro _ _ _ _ ⟨r, rfl, h⟩
 exact h
/-- replevin/run.From -/
theorem W54 (k58 : S58) (k59 : S59) (k63 : S63) (w0 : World) (χ0 : Nat → Nat) (o_ : Api_Object) (l_ : List Api_Oper) (state : Int) (picks : List Api_Pick) (a1 : Option Addr) (c1 : Nat) (a2 : Option Addr) (c2 : Nat) (a3 : Option Addr) (c3 : Nat) (Q : Int × Int × Int → Prop) (hm : VC54 o_ l_ state picks Q) (h1 : RS tApi_Row w0 χ0 a1 o_.Rows c1) (h2 : RS tApi_Oper w0 χ0 a2 l_ c2) (h3 : RS tApi_Pick w0 χ0 a3 picks c3) :
  Ret Try.prog 54 #[.agg #[.int .i64 o_.States, .int .i64 o_.Kinds, .int .i64 o_.Init, .slice a1 o_.Rows.length c1], .slice a2 l_.length c2, .int .i64 state, .slice a3 picks.length c3] xnone w0 χ0 (fun w χ' v => ∃ r, Q r ∧ v = .tuple #[.int .i64 r.1, .int .i64 r.2.1, .int .i64 r.2.2]) := by
 unfold VC54 at hm
 replace hm := hm (h1.sm kr)
 replace hm := hm (h2.sm kr)
 replace hm := hm (h3.sm kr)
 refine enter Try.func54 rfl (vals := [.agg #[.int .i64 o_.States, .int .i64 o_.Kinds, .int .i64 o_.Init, .slice a1 o_.Rows.length c1], .slice a2 l_.length c2, .int .i64 state, .slice a3 picks.length c3]) kr ?_
 intro ρ a hS hO hM
 replace h1 := h1.m0 hM
 replace h2 := h2.m0 hM
 replace h3 := h3.m0 hM
 clear hM
 refine rM T hS ⟨[(1, Sl a2 l_ c2), (2, I state), (3, Sl a3 picks c3), (4, Pt 5 0)], [(5, (24, [I o_.States, I o_.Kinds, I o_.Init, Sl a1 o_.Rows c1]))]⟩ fun ρ a w154 χ155 hS hE hr => ?_
 replace hO := hO.mv hE rfl rfl
 replace h1 := h1.mv hE rfl
 replace h2 := h2.mv hE rfl
 replace h3 := h3.mv hE rfl
 clear hE hr
 refine wseq ?_
 refine regO ?_
 refine oP T hS 2 ⟨[(1, Sl a2 l_ c2), (2, I state), (3, Sl a3 picks c3), (4, Pt 5 0), (17, V (.agg #[.int .i64 o_.States, .int .i64 o_.Kinds, .int .i64 o_.Init, .slice a1 o_.Rows.length c1])), (18, I state)], [(5, (24, [I o_.States, I o_.Kinds, I o_.Init, Sl a1 o_.Rows c1]))]⟩ fun a hS => ?_
 obtain ⟨hq, hm⟩ := hm
 refine op1 (call hS kr kr hb58 kr (fun _ _ => rfl) (k58 _ _ o_ state a1 c1 hq h1) ?_)
 intro v101 a w102 χ103 hE hp hS
 clear hq
 replace hO := hO.mv hE rfl rfl
 replace h1 := h1.mv hE rfl
 replace h2 := h2.mv hE rfl
 replace h3 := h3.mv hE rfl
 clear hE
 obtain ⟨r104, hr⟩ : ∃ r, run_may o_ state = r := ⟨_, rfl⟩
 replace hm := hm r104 hr
 rw [hr] at hp
 clear hr
 subst hp
 refine eP T hS ⟨[(1, Sl a2 l_ c2), (2, I state), (3, Sl a3 picks c3), (4, Pt 5 0), (11, I r104)], [(5, (24, [I o_.States, I o_.Kinds, I o_.Init, Sl a1 o_.Rows c1]))]⟩ fun a hS => ?_
 refine rP T hS ⟨[(1, Sl a2 l_ c2), (2, I state), (3, Sl a3 picks c3), (4, Pt 5 0), (11, I r104), (21, B (r104 != 0))], [(5, (24, [I o_.States, I o_.Kinds, I o_.Init, Sl a1 o_.Rows c1]))]⟩ fun a hS => ?_
 refine wcond hS (b := (r104 != 0)) kr (fun hb => ?_) (fun hb => ?_)
 ·replace hm := hm.1 hb
  refine rP T hS ⟨[(8, I 0), (9, I (-1)), (10, I r104)], []⟩ fun a hS => ?_
  refine wret ?_
  exact fin T hS hO (fun c => c) rfl (r := [.int .i64 0, .int .i64 (-1), .int .i64 r104]) kr (fun χ' hM hC => ⟨(0, (-1), r104), hm, rfl⟩)
 ·replace hm := hm.2 hb
  refine wskip ?_
  refine regO ?_
  refine oP T hS 3 ⟨[(2, I state), (3, Sl a3 picks c3), (23, V (.agg #[.int .i64 o_.States, .int .i64 o_.Kinds, .int .i64 o_.Init, .slice a1 o_.Rows.length c1])), (24, Sl a2 l_ c2), (25, I state)], []⟩ fun a hS => ?_
  refine op1 (call hS kr kr hb59 kr (fun _ _ => rfl) (k59 _ _ o_ l_ state a1 c1 a2 c2 2113 701 702 703 704 h1 h2) ?_)
  intro v105 a w106 χ107 hE hp hS
  replace hO := hO.mv hE rfl rfl
  replace h1 := h1.mv hE rfl
  replace h2 := h2.mv hE rfl
  replace h3 := h3.mv hE rfl
  clear hE
  obtain ⟨a109, c110, r113, a114, c115, b117, b118, b119, b120, hp, h111, h116, hc121, hc122, h112, hc123, hc124⟩ := hp
  obtain ⟨r108, hr⟩ : ∃ r, run_runner o_ l_ state = r := ⟨_, rfl⟩
  replace hm := hm r108 hr
  rw [hr] at h111 h116 hc121 hc123 hc124 h112
  clear hr
  subst hp
  replace hm := hm (h111.sm kr)
  replace hm := hm (h116.sm kr)
  replace hS := hS.newbox (id := 701) (t := 25) (cs := [Sl a109 r108.1 c110]) kr kr hc121 rfl
  replace hS := hS.newbox (id := 702) (t := 96) (cs := [V (.map (some r113))]) kr kr hc122 rfl
  replace hS := hS.newbox (id := 703) (t := 24) (cs := [I r108.2.2.1.States, I r108.2.2.1.Kinds, I r108.2.2.1.Init, Sl a114 r108.2.2.1.Rows c115]) kr kr hc123 rfl
  replace hS := hS.newbox (id := 704) (t := 3) (cs := [I r108.2.2.2]) kr kr hc124 rfl
  replace hS := hS.convS (t := 26) (x := V (.func (.func 63) #[] #[.pointer (some ⟨b117, 0, none⟩), .pointer (some ⟨b118, 0, none⟩), .pointer (some ⟨b119, 0, none⟩), .pointer (some ⟨b120, 0, none⟩)])) (y := .f (.func 63) [] [.p 701 0, .p 702 0, .p 703 0, .p 704 0]) kr rfl
  generalize (upd (upd (upd (upd ρ 701 b117) 702 b118) 703 b119) 704 b120) = ρ at hS
  clear hc121 hc122 hc123 hc124
  refine eP T hS ⟨[(2, I state), (3, Sl a3 picks c3), (12, .f (.func 63) [] [.p 701 0, .p 702 0, .p 703 0, .p 704 0])], [(701, (25, [Sl a109 r108.1 c110])), (702, (96, [V (.map (some r113))])), (703, (24, [I r108.2.2.1.States, I r108.2.2.1.Kinds, I r108.2.2.1.Init, Sl a114 r108.2.2.1.Rows c115])), (704, (3, [I r108.2.2.2]))]⟩ fun a hS => ?_
  refine rP T hS ⟨[(3, Sl a3 picks c3), (8, I state), (12, .f (.func 63) [] [.p 701 0, .p 702 0, .p 703 0, .p 704 0])], [(701, (25, [Sl a109 r108.1 c110])), (702, (96, [V (.map (some r113))])), (703, (24, [I r108.2.2.1.States, I r108.2.2.1.Kinds, I r108.2.2.1.Init, Sl a114 r108.2.2.1.Rows c115])), (704, (3, [I r108.2.2.2]))]⟩ fun a hS => ?_
  refine wcut (fun a w => ∃ (ρ : Nat → Nat) (χ : Nat → Nat) (end_126 : Int), VC54_J1 picks Q end_126 ∧ St Try.f54.ntmps ⟨[(3, Sl a3 picks c3), (8, I end_126)], []⟩ ρ a w χ ∧ Old w0 χ0 w χ ∧ RS tApi_Pick w χ a3 picks c3) ?_ ?_
  ·refine rP T hS ⟨[(3, Sl a3 picks c3), (8, I state), (12, .f (.func 63) [] [.p 701 0, .p 702 0, .p 703 0, .p 704 0]), (28, Sl a3 picks c3), (29, I ((picks.length : Nat) : Int)), (30, I 0)], [(701, (25, [Sl a109 r108.1 c110])), (702, (96, [V (.map (some r113))])), (703, (24, [I r108.2.2.1.States, I r108.2.2.1.Kinds, I r108.2.2.1.Init, Sl a114 r108.2.2.1.Rows c115])), (704, (3, [I r108.2.2.2]))]⟩ fun a hS => ?_
   refine wblock ?_
   obtain ⟨I1, μ1, hm0, hm⟩ := hm
   refine wloop (σ := Int × Int × (List (Int × Int)) × Int) (fun s a w => ∃ (ρ : Nat → Nat) (χ : Nat → Nat), I1 s.1 s.2.1 s.2.2.1 s.2.2.2 ∧ St Try.f54.ntmps ⟨[(3, Sl a3 picks c3), (8, I s.1), (12, .f (.func 63) [] [.p 701 0, .p 702 0, .p 703 0, .p 704 0]), (28, Sl a3 picks c3), (29, I ((picks.length : Nat) : Int)), (30, I s.2.1)], [(701, (25, [Sl a109 r108.1 c110])), (702, (96, [V (.map (some r113))])), (703, (24, [I r108.2.2.1.States, I r108.2.2.1.Kinds, I r108.2.2.1.Init, Sl a114 r108.2.2.1.Rows c115])), (704, (3, [I s.2.2.2]))]⟩ ρ a w χ ∧ Old w0 χ0 w χ ∧ RS tApi_Pick w χ a3 picks c3 ∧ RS tApi_Pick w χ a3 picks c3 ∧ RS tApi_Oper w χ a109 r108.1 c110 ∧ OM kI tI false w χ 2113 r113 s.2.2.1 ∧ RS tApi_Row w χ a114 r108.2.2.1.Rows c115) (fun s => μ1 s.1 s.2.1 s.2.2.1 s.2.2.2) (⟨state, 0, r108.2.1, r108.2.2.2⟩) ?_ ?_
   ·exact ⟨ρ, _, hm0, hS.sl _, hO, h3, h3, h111, h112, h116⟩
   ·rintro ⟨end_128, x_130, x_132, x_135⟩ a w151 ⟨ρ, χ150, hI, hS, hO, h127, h129, h131, h133, h134⟩
    replace hm := hm end_128 x_130 x_132 x_135 hI
    clear hI hm0
    refine rP T hS ⟨[(3, Sl a3 picks c3), (8, I end_128), (12, .f (.func 63) [] [.p 701 0, .p 702 0, .p 703 0, .p 704 0]), (28, Sl a3 picks c3), (29, I ((picks.length : Nat) : Int)), (30, I x_130), (31, B (decide (x_130 < ((picks.length : Nat) : Int))))], [(701, (25, [Sl a109 r108.1 c110])), (702, (96, [V (.map (some r113))])), (703, (24, [I r108.2.2.1.States, I r108.2.2.1.Kinds, I r108.2.2.1.Init, Sl a114 r108.2.2.1.Rows c115])), (704, (3, [I x_135]))]⟩ fun a hS => ?_
    refine wseq ?_
    refine wcond hS (b := decide (x_130 < ((picks.length : Nat) : Int))) kr (fun hb => ?_) (fun hb => ?_)
    ·replace hm := hm.1 hb
     refine wskip ?_
     refine wseq ?_
     refine wblock ?_
     refine regO ?_
     refine oP T hS 1 ⟨[(3, Sl a3 picks c3), (12, .f (.func 63) [] [.p 701 0, .p 702 0, .p 703 0, .p 704 0]), (28, Sl a3 picks c3), (29, I ((picks.length : Nat) : Int)), (30, I x_130), (32, I x_130)], [(701, (25, [Sl a109 r108.1 c110])), (702, (96, [V (.map (some r113))])), (703, (24, [I r108.2.2.1.States, I r108.2.2.1.Kinds, I r108.2.2.1.Init, Sl a114 r108.2.2.1.Rows c115])), (704, (3, [I x_135]))]⟩ fun a hS => ?_
     obtain ⟨hq, hm⟩ := hm
     refine op1 (index (e := 51) (k := .i64) T hS kr kr kr kr h129 kr kr hq.1 hq.2 ?_)
     intro A136 a h137 hS
     clear hq
     refine op1 (loadA T hS kr kr kr h137 kr kr ?_)
     intro v138 a hv hS
     subst hv
     refine eM T hS ⟨[(3, Sl a3 picks c3), (12, .f (.func 63) [] [.p 701 0, .p 702 0, .p 703 0, .p 704 0]), (13, I x_130), (14, Pt 15 0), (28, Sl a3 picks c3), (29, I ((picks.length : Nat) : Int)), (30, I x_130)], [(15, (51, [I ((gi picks x_130).Oper), I ((gi picks x_130).Result)])), (701, (25, [Sl a109 r108.1 c110])), (702, (96, [V (.map (some r113))])), (703, (24, [I r108.2.2.1.States, I r108.2.2.1.Kinds, I r108.2.2.1.Init, Sl a114 r108.2.2.1.Rows c115])), (704, (3, [I x_135]))]⟩ fun ρ a w148 χ149 hS hE hr => ?_
     replace hO := hO.mv hE rfl rfl
     replace h127 := h127.mv hE rfl
     replace h129 := h129.mv hE rfl
     replace h131 := h131.mv hE rfl
     replace h133 := h133.mv hE rfl rfl
     replace h134 := h134.mv hE rfl
     clear hE hr
     refine regO ?_
     refine oP T hS 2 ⟨[(3, Sl a3 picks c3), (12, .f (.func 63) [] [.p 701 0, .p 702 0, .p 703 0, .p 704 0]), (13, I x_130), (28, Sl a3 picks c3), (29, I ((picks.length : Nat) : Int)), (30, I x_130), (36, .f (.func 63) [] [.p 701 0, .p 702 0, .p 703 0, .p 704 0]), (37, V (.agg #[.int .i64 ((gi picks x_130).Oper), .int .i64 ((gi picks x_130).Result)]))], [(701, (25, [Sl a109 r108.1 c110])), (702, (96, [V (.map (some r113))])), (703, (24, [I r108.2.2.1.States, I r108.2.2.1.Kinds, I r108.2.2.1.Init, Sl a114 r108.2.2.1.Rows c115])), (704, (3, [I x_135]))]⟩ fun a hS => ?_
     refine op1 (callCR (fi := []) (cp := [.p 701 0, .p 702 0, .p 703 0, .p 704 0]) hS kr kr hb63 kr kr (k63 _ _ (gi picks x_130) r108.1 x_132 r108.2.2.1 x_135 a109 c110 r113 2113 a114 c115 (ρ 701) 701 (ρ 702) 702 (ρ 703) 703 (ρ 704) 704 h131 h133 h134 (hS.cell (id := 701) (t := 25) (cs := [Sl a109 r108.1 c110]) kr) (hS.cell (id := 702) (t := 96) (cs := [V (.map (some r113))]) kr) (hS.cell (id := 703) (t := 24) (cs := [I r108.2.2.1.States, I r108.2.2.1.Kinds, I r108.2.2.1.Init, Sl a114 r108.2.2.1.Rows c115]) kr) (hS.cell (id := 704) (t := 3) (cs := [I x_135]) kr) ⟨by decide, by decide⟩) ?_)
     intro v139 a w140 χ141 hE hp hS
     clear h133
     replace hO := hO.mv hE rfl rfl
     replace h127 := h127.mv hE rfl
     replace h129 := h129.mv hE rfl
     replace h131 := h131.mv hE rfl
     replace h134 := h134.mv hE rfl
     clear hE
     obtain ⟨hp, hc144, hc145, h143, hc146, hc147⟩ := hp
     obtain ⟨r142, hr⟩ : ∃ r, run_runner_1 (gi picks x_130) r108.1 x_132 r108.2.2.1 x_135 = r := ⟨_, rfl⟩
     replace hm := hm r142 hr
     rw [hr] at hp hc147 h143
     clear hr
     subst hp
     replace hS := hS.addbox (id := 701) (t := 25) (cs := [Sl a109 r108.1 c110]) kr hc144
     replace hS := hS.addbox (id := 702) (t := 96) (cs := [V (.map (some r113))]) kr hc145
     replace hS := hS.addbox (id := 703) (t := 24) (cs := [I r108.2.2.1.States, I r108.2.2.1.Kinds, I r108.2.2.1.Init, Sl a114 r108.2.2.1.Rows c115]) kr hc146
     replace hS := hS.addbox (id := 704) (t := 3) (cs := [I r142.2.2.2]) kr hc147
     clear hc144 hc145 hc146 hc147
     refine eP T hS ⟨[(3, Sl a3 picks c3), (12, .f (.func 63) [] [.p 701 0, .p 702 0, .p 703 0, .p 704 0]), (13, I x_130), (15, I r142.1), (16, I r142.2.1), (28, Sl a3 picks c3), (29, I ((picks.length : Nat) : Int)), (30, I x_130)], [(701, (25, [Sl a109 r108.1 c110])), (702, (96, [V (.map (some r113))])), (703, (24, [I r108.2.2.1.States, I r108.2.2.1.Kinds, I r108.2.2.1.Init, Sl a114 r108.2.2.1.Rows c115])), (704, (3, [I r142.2.2.2]))]⟩ fun a hS => ?_
     refine wseq ?_
     refine rP T hS ⟨[(3, Sl a3 picks c3), (12, .f (.func 63) [] [.p 701 0, .p 702 0, .p 703 0, .p 704 0]), (13, I x_130), (15, I r142.1), (16, I r142.2.1), (28, Sl a3 picks c3), (29, I ((picks.length : Nat) : Int)), (30, I x_130), (42, B (r142.2.1 != 0))], [(701, (25, [Sl a109 r108.1 c110])), (702, (96, [V (.map (some r113))])), (703, (24, [I r108.2.2.1.States, I r108.2.2.1.Kinds, I r108.2.2.1.Init, Sl a114 r108.2.2.1.Rows c115])), (704, (3, [I r142.2.2.2]))]⟩ fun a hS => ?_
     refine wcond hS (b := (r142.2.1 != 0)) kr (fun hb => ?_) (fun hb => ?_)
     ·replace hm := hm.1 hb
      refine rP T hS ⟨[(8, I 0), (9, I x_130), (10, I r142.2.1)], []⟩ fun a hS => ?_
      refine wret ?_
      exact fin T hS hO (fun c => c) rfl (r := [.int .i64 0, .int .i64 x_130, .int .i64 r142.2.1]) kr (fun χ' hM hC => ⟨(0, x_130, r142.2.1), hm, rfl⟩)
     ·replace hm := hm.2 hb
      refine wskip ?_
      refine region (eP T hS ⟨[(3, Sl a3 picks c3), (8, I r142.1), (12, .f (.func 63) [] [.p 701 0, .p 702 0, .p 703 0, .p 704 0]), (28, Sl a3 picks c3), (29, I ((picks.length : Nat) : Int)), (30, I x_130)], [(701, (25, [Sl a109 r108.1 c110])), (702, (96, [V (.map (some r113))])), (703, (24, [I r108.2.2.1.States, I r108.2.2.1.Kinds, I r108.2.2.1.Init, Sl a114 r108.2.2.1.Rows c115])), (704, (3, [I r142.2.2.2]))]⟩ fun a hS => ?_)
      refine region (eP T hS ⟨[(3, Sl a3 picks c3), (8, I r142.1), (12, .f (.func 63) [] [.p 701 0, .p 702 0, .p 703 0, .p 704 0]), (28, Sl a3 picks c3), (29, I ((picks.length : Nat) : Int)), (30, I (IntKind.i64.wrap (x_130 + 1)))], [(701, (25, [Sl a109 r108.1 c110])), (702, (96, [V (.map (some r113))])), (703, (24, [I r108.2.2.1.States, I r108.2.2.1.Kinds, I r108.2.2.1.Init, Sl a114 r108.2.2.1.Rows c115])), (704, (3, [I r142.2.2.2]))]⟩ fun a hS => ?_)
      exact ⟨⟨r142.1, IntKind.i64.wrap (x_130 + 1), r142.2.2.1, r142.2.2.2⟩, ⟨ρ, _, hm.1, hS.sl _, hO, h127, h129, h131, h143, h134⟩, hm.2⟩
    ·replace hm := hm.2 hb
     refine wexit (by rfl) ?_
     exact ⟨ρ, _, end_128, hm, hS.sl _, hO, h127⟩
  ·rintro a w153 ⟨ρ, χ152, end_126, hm, hS, hO, h125⟩
   unfold VC54_J1 at hm
   refine rP T hS ⟨[(8, I end_126), (9, I ((picks.length : Nat) : Int)), (10, I 0)], []⟩ fun a hS => ?_
   refine wret ?_
   exact fin T hS hO (fun c => c) rfl (r := [.int .i64 end_126, .int .i64 ((picks.length : Nat) : Int), .int .i64 0]) kr (fun χ' hM hC => ⟨(end_126, ((picks.length : Nat) : Int), 0), hm, rfl⟩)
theorem C54 (k58 : S58) (k59 : S59) (k63 : S63) (v : ∀ (o_ : Api_Object) (l_ : List Api_Oper) (state : Int) (picks : List Api_Pick), preO3 o_ l_ state picks → VC54 o_ l_ state picks (fun r => r = run_From o_ l_ state picks)) : S54 := by
 intro w χ o_ l_ state picks a1 c1 a2 c2 a3 c3   hp h1 h2 h3
 refine (W54 k58 k59 k63 w χ o_ l_ state picks a1 c1 a2 c2 a3 c3   _ (v o_ l_ state picks hp) h1 h2 h3).mono ?_
 rintro _ _ _ _ ⟨r, rfl, h⟩
 exact h
/-- replevin/run.Picks -/
theorem W43 (k54 : S54) (w0 : World) (χ0 : Nat → Nat) (o_ : Api_Object) (l_ : List Api_Oper) (picks : List Api_Pick) (a1 : Option Addr) (c1 : Nat) (a2 : Option Addr) (c2 : Nat) (a3 : Option Addr) (c3 : Nat) (Q : Int × Int × Int → Prop) (hm : VC43 o_ l_ picks Q) (h1 : RS tApi_Row w0 χ0 a1 o_.Rows c1) (h2 : RS tApi_Oper w0 χ0 a2 l_ c2) (h3 : RS tApi_Pick w0 χ0 a3 picks c3) :
  Ret Try.prog 43 #[.agg #[.int .i64 o_.States, .int .i64 o_.Kinds, .int .i64 o_.Init, .slice a1 o_.Rows.length c1], .slice a2 l_.length c2, .slice a3 picks.length c3] xnone w0 χ0 (fun w χ' v => ∃ r, Q r ∧ v = .tuple #[.int .i64 r.1, .int .i64 r.2.1, .int .i64 r.2.2]) := by
 unfold VC43 at hm
 replace hm := hm (h1.sm kr)
 replace hm := hm (h2.sm kr)
 replace hm := hm (h3.sm kr)
 refine enter Try.func43 rfl (vals := [.agg #[.int .i64 o_.States, .int .i64 o_.Kinds, .int .i64 o_.Init, .slice a1 o_.Rows.length c1], .slice a2 l_.length c2, .slice a3 picks.length c3]) kr ?_
 intro ρ a hS hO hM
 replace h1 := h1.m0 hM
 replace h2 := h2.m0 hM
 replace h3 := h3.m0 hM
 clear hM
 refine rM T hS ⟨[(1, Sl a2 l_ c2), (2, Sl a3 picks c3), (3, Pt 4 0)], [(4, (24, [I o_.States, I o_.Kinds, I o_.Init, Sl a1 o_.Rows c1]))]⟩ fun ρ a w105 χ106 hS hE hr => ?_
 replace hO := hO.mv hE rfl rfl
 replace h1 := h1.mv hE rfl
 replace h2 := h2.mv hE rfl
 replace h3 := h3.mv hE rfl
 clear hE hr
 refine regO ?_
 refine oP T hS 5 ⟨[(9, V (.agg #[.int .i64 o_.States, .int .i64 o_.Kinds, .int .i64 o_.Init, .slice a1 o_.Rows.length c1])), (10, Sl a2 l_ c2), (12, I o_.Init), (13, Sl a3 picks c3)], []⟩ fun a hS => ?_
 obtain ⟨hq, hm⟩ := hm
 refine op1 (call hS kr kr hb54 kr (fun _ _ => rfl) (k54 _ _ o_ l_ o_.Init picks a1 c1 a2 c2 a3 c3 hq h1 h2 h3) ?_)
 intro v101 a w102 χ103 hE hp hS
 clear hq
 replace hO := hO.mv hE rfl rfl
 replace h1 := h1.mv hE rfl
 replace h2 := h2.mv hE rfl
 replace h3 := h3.mv hE rfl
 clear hE
 obtain ⟨r104, hr⟩ : ∃ r, run_From o_ l_ o_.Init picks = r := ⟨_, rfl⟩
 replace hm := hm r104 hr
 rw [hr] at hp
 clear hr
 subst hp
 refine eP T hS ⟨[(6, I r104.1), (7, I r104.2.1), (8, I r104.2.2)], []⟩ fun a hS => ?_
 refine wret ?_
 exact fin T hS hO (fun c => c) rfl (r := [.int .i64 r104.1, .int .i64 r104.2.1, .int .i64 r104.2.2]) kr (fun χ' hM hC => ⟨(r104.1, r104.2.1, r104.2.2), hm, rfl⟩)
theorem C43 (k54 : S54) (v : ∀ (o_ : Api_Object) (l_ : List Api_Oper) (picks : List Api_Pick), preO2 o_ l_ picks → VC43 o_ l_ picks (fun r => r = run_Picks o_ l_ picks)) : S43 := by
 intro w χ o_ l_ picks a1 c1 a2 c2 a3 c3   hp h1 h2 h3
 refine (W43 k54 w χ o_ l_ picks a1 c1 a2 c2 a3 c3   _ (v o_ l_ picks hp) h1 h2 h3).mono ?_
 rintro _ _ _ _ ⟨r, rfl, h⟩
 exact h
/-- replevin/witness.absent -/
theorem W60 (w0 : World) (χ0 : Nat → Nat) (picks : List Api_Pick) (a1 : Option Addr) (c1 : Nat) (col1 : Nat) (col2 : Nat) (Q : (List (Int × Int)) → Prop) (hm : VC60 picks Q) (h1 : RS tApi_Pick w0 χ0 a1 picks c1) :
  Ret Try.prog 60 #[.slice a1 picks.length c1] xnone w0 χ0 (fun w χ' v => ∃ r, Q r ∧ ∃ (rr1 : Nat) (rb1 : Nat), v = .func (.func 65) #[] #[.pointer (some ⟨rb1, 0, none⟩)] ∧ Cell w χ' rb1 col2 96 [.map (some rr1)] ∧ OM kI tI false w χ' col1 rr1 r) := by
 unfold VC60 at hm
 replace hm := hm (h1.sm kr)
 refine enter Try.func60 rfl (vals := [.slice a1 picks.length c1]) kr ?_
 intro ρ a hS hO hM
 replace h1 := h1.m0 hM
 clear hM
 refine rP T hS ⟨[(0, Sl a1 picks c1)], []⟩ fun a hS => ?_
 refine regO ?_
 refine op1 (mkmap kI tI false 1007 hS kr kr ?_)
 intro r101 a w102 χ103 hE h104 hS
 replace hO := hO.mv hE rfl rfl
 replace h1 := h1.mv hE rfl
 clear hE
 refine eM T hS ⟨[(0, Sl a1 picks c1), (3, Pt 4 0)], [(4, (96, [V (.map (some r101))]))]⟩ fun ρ a w123 χ124 hS hE hr => ?_
 replace hO := hO.mv hE rfl rfl
 replace h1 := h1.mv hE rfl
 replace h104 := h104.mv hE rfl rfl
 clear hE hr
 refine wcut (fun a w => ∃ (ρ : Nat → Nat) (χ : Nat → Nat) (x_105 : List (Int × Int)), VC60_J1 Q x_105 ∧ St Try.f60.ntmps ⟨[(3, Pt 4 0)], [(4, (96, [V (.map (some r101))]))]⟩ ρ a w χ ∧ Old w0 χ0 w χ ∧ OM kI tI false w χ 1007 r101 x_105) ?_ ?_
 ·refine rP T hS ⟨[(3, Pt 4 0), (7, Sl a1 picks c1), (8, I ((picks.length : Nat) : Int)), (9, I 0)], [(4, (96, [V (.map (some r101))]))]⟩ fun a hS => ?_
  refine wblock ?_
  obtain ⟨I1, μ1, hm0, hm⟩ := hm
  refine wloop (σ := Int × (List (Int × Int))) (fun s a w => ∃ (ρ : Nat → Nat) (χ : Nat → Nat), I1 s.1 s.2 ∧ St Try.f60.ntmps ⟨[(3, Pt 4 0), (7, Sl a1 picks c1), (8, I ((picks.length : Nat) : Int)), (9, I s.1)], [(4, (96, [V (.map (some r101))]))]⟩ ρ a w χ ∧ Old w0 χ0 w χ ∧ RS tApi_Pick w χ a1 picks c1 ∧ OM kI tI false w χ 1007 r101 s.2) (fun s => μ1 s.1 s.2) (⟨0, ([] : List (Int × Int))⟩) ?_ ?_
  ·exact ⟨ρ, _, hm0, hS.sl _, hO, h1, h104⟩
  ·rintro ⟨x_108, x_109⟩ a w120 ⟨ρ, χ119, hI, hS, hO, h107, h110⟩
   replace hm := hm x_108 x_109 hI
   clear hI hm0
   refine rP T hS ⟨[(3, Pt 4 0), (7, Sl a1 picks c1), (8, I ((picks.length : Nat) : Int)), (9, I x_108), (10, B (decide (x_108 < ((picks.length : Nat) : Int))))], [(4, (96, [V (.map (some r101))]))]⟩ fun a hS => ?_
   refine wseq ?_
   refine wcond hS (b := decide (x_108 < ((picks.length : Nat) : Int))) kr (fun hb => ?_) (fun hb => ?_)
   ·replace hm := hm.1 hb
    refine wskip ?_
    refine wseq ?_
    refine wblock ?_
    refine regO ?_
    obtain ⟨hq, hm⟩ := hm
    refine op1 (index (e := 51) (k := .i64) T hS kr kr kr kr h107 kr kr hq.1 hq.2 ?_)
    intro A111 a h112 hS
    clear hq
    refine op1 (loadA T hS kr kr kr h112 kr kr ?_)
    intro v113 a hv hS
    subst hv
    refine eM T hS ⟨[(3, Pt 4 0), (5, Pt 6 0), (7, Sl a1 picks c1), (8, I ((picks.length : Nat) : Int)), (9, I x_108)], [(4, (96, [V (.map (some r101))])), (6, (51, [I ((gi picks x_108).Oper), I ((gi picks x_108).Result)]))]⟩ fun ρ a w117 χ118 hS hE hr => ?_
    replace hO := hO.mv hE rfl rfl
    replace h107 := h107.mv hE rfl
    replace h110 := h110.mv hE rfl rfl
    clear hE hr
    refine region ?_
    refine oP T hS 3 ⟨[(3, Pt 4 0), (7, Sl a1 picks c1), (8, I ((picks.length : Nat) : Int)), (9, I x_108), (13, V (.map (some r101))), (15, I ((gi picks x_108).Oper))], [(4, (96, [V (.map (some r101))]))]⟩ fun a hS => ?_
    refine op1 (mlook kI tI false (zv := .int .i64 0) (z := 0) ((gi picks x_108).Oper) hS kr kr kr kr Try.underlying96 Try.underlying3 kr rfl h110 ?_)
    intro v114 a hv hS
    replace hv : tI.R _ _ [v114] _ := hv
    cases hv
    refine oP T hS 1 ⟨[(3, Pt 4 0), (7, Sl a1 picks c1), (8, I ((picks.length : Nat) : Int)), (9, I x_108), (13, V (.map (some r101))), (15, I ((gi picks x_108).Oper)), (17, I (IntKind.i64.wrap (((mget x_109 ((gi picks x_108).Oper)).getD 0) + 1)))], [(4, (96, [V (.map (some r101))]))]⟩ fun a hS => ?_
    refine op1 (mset kI tI false (v := I (IntKind.i64.wrap (((mget x_109 ((gi picks x_108).Oper)).getD 0) + 1))) (u := IntKind.i64.wrap (((mget x_109 ((gi picks x_108).Oper)).getD 0) + 1)) ((gi picks x_108).Oper) hS kr kr kr kr Try.underlying96 Try.underlying3 kr h110 rfl ?_)
    intro a w115 hE h116 hS
    clear h110
    replace hO := hO.mv hE rfl rfl
    replace h107 := h107.mv hE rfl
    clear hE
    refine doneK ?_
    refine region (eP T hS ⟨[(3, Pt 4 0), (7, Sl a1 picks c1), (8, I ((picks.length : Nat) : Int)), (9, I (IntKind.i64.wrap (x_108 + 1)))], [(4, (96, [V (.map (some r101))]))]⟩ fun a hS => ?_)
    exact ⟨⟨IntKind.i64.wrap (x_108 + 1), mput x_109 ((gi picks x_108).Oper) (IntKind.i64.wrap (((mget x_109 ((gi picks x_108).Oper)).getD 0) + 1))⟩, ⟨ρ, _, hm.1, hS.sl _, hO, h107, h116⟩, hm.2⟩
   ·replace hm := hm.2 hb
    refine wexit (by rfl) ?_
    exact ⟨ρ, _, x_109, hm, hS.sl _, hO, h110⟩
 ·rintro a w122 ⟨ρ, χ121, x_105, hm, hS, hO, h106⟩
  unfold VC60_J1 at hm
  refine rP T hS ⟨[(2, .f (.func 65) [] [.p 4 0])], [(4, (96, [V (.map (some r101))]))]⟩ fun a hS => ?_
  refine wret ?_
  exact fin T hS hO (fun c => (bif Nat.beq c 4 then col2 else (bif Nat.beq c 1007 then col1 else c))) rfl (r := [.func (.func 65) #[] #[.pointer (some ⟨ρ 4, 0, none⟩)]]) kr (fun χ' hM hC => ⟨x_105, hm, r101, (ρ 4), rfl, ((hS.cell (id := 4) (t := 96) (cs := [V (.map (some r101))]) kr).out (f := (fun c => (bif Nat.beq c 4 then col2 else (bif Nat.beq c 1007 then col1 else c)))) hC kr kr rfl), (h106.out (f := (fun c => (bif Nat.beq c 4 then col2 else (bif Nat.beq c 1007 then col1 else c)))) hM hC kr kr)⟩)
theorem C60 (v : ∀ (picks : List Api_Pick), VC60 picks (fun r => r = witness_absent picks)) : S60 := by
 intro w χ picks a1 c1 col1 col2  h1
 refine (W60 w χ picks a1 c1 col1 col2  _ (v picks) h1).mono ?_
 rintro _ _ _ _ ⟨r, rfl, h⟩
 exact h
/-- replevin/witness.absent$1 -/
theorem W65 (w0 : World) (χ0 : Nat → Nat) (i_ : Int) (cap1 : List (Int × Int)) (r1 : Nat) (m1 : Nat) (b1 : Nat) (i1 : Nat) (Q : Bool → Prop) (hm : VC65 i_ cap1 Q) (h1 : OM kI tI false w0 χ0 m1 r1 cap1) (hc1 : Cell w0 χ0 b1 i1 96 [.map (some r1)]) (hA : Apart [i1, m1]) :
  Ret Try.prog 65 #[.int .i64 i_, .pointer (some ⟨b1, 0, none⟩)] (pR [i1, m1]) w0 χ0 (fun w χ' v => ∃ r, Q r ∧ v = .bool r ∧ Cell w χ' b1 i1 96 [.map (some r1)] ∧ OM kI tI false w χ' m1 r1 cap1) := by
 unfold VC65 at hm
 refine enterR Try.func65 rfl (f0of [(i1, 901), (m1, 2001)]) (fun id => (bif Nat.beq id 901 then b1 else 0)) (args := [I i_, Pt 901 0]) (bxs := [(901, (96, [V (.map (some r1))]))]) kr rfl (BoxesOK.cons kr (hc1.map (f0of_at 0 hA.1 rfl)) BoxesOK.nil) (f0of_0 (fun q hq => (hA.2 q.1 (List.mem_map.2 ⟨q, hq, rfl⟩)).1)) ?_
 intro a hS hO hM
 have hP : Pin [(901, b1)] (fun id => (bif Nat.beq id 901 then b1 else 0)) := by intro q hq; simp at hq; rcases hq with rfl <;> rfl
 generalize (fun id => (bif Nat.beq id 901 then b1 else 0)) = ρ at hS hP
 clear hc1
 replace h1 := h1.map (f := f0of [(i1, 901), (m1, 2001)]) (f0of_at 1 hA.1 rfl) hM
 clear hM
 refine rP T hS ⟨[(0, I i_), (1, Pt 901 0)], [(901, (96, [V (.map (some r1))]))]⟩ fun a hS => ?_
 refine regO ?_
 refine oP T hS 2 ⟨[(4, V (.map (some r1))), (5, I i_)], [(901, (96, [V (.map (some r1))]))]⟩ fun a hS => ?_
 refine op1 (mlook kI tI false (zv := .int .i64 0) (z := 0) i_ hS kr kr kr kr Try.underlying96 Try.underlying3 kr rfl h1 ?_)
 intro v101 a hv hS
 replace hv : tI.R _ _ [v101] _ := hv
 cases hv
 refine eP T hS ⟨[(3, B (((mget cap1 i_).getD 0) == 0))], [(901, (96, [V (.map (some r1))]))]⟩ fun a hS => ?_
 refine wret ?_
 exact finR T hS hO (fun c h => f0of_zero kr h) (fun c h => f0of_else (l := [(i1, 901), (m1, 2001)]) h) (f1of [(i1, 901), (m1, 2001)]) rfl (r := [.bool (((mget cap1 i_).getD 0) == 0)]) kr (fun χ' hM hC => ⟨(((mget cap1 i_).getD 0) == 0), hm, rfl, ((hS.cell (id := 901) (t := 96) (cs := [V (.map (some r1))]) kr).out (f := (f1of [(i1, 901), (m1, 2001)])) hC kr kr (hP.at 0 rfl)), (h1.out (f := (f1of [(i1, 901), (m1, 2001)])) hM hC kr kr)⟩)
theorem C65 (v : ∀ (i_ : Int) (cap1 : List (Int × Int)), VC65 i_ cap1 (fun r => r = witness_absent_1 i_ cap1)) : S65 := by
 intro w χ i_ cap1 r1 m1  b1 i1 h1 hc1 hA
 refine (W65 w χ i_ cap1 r1 m1  b1 i1 _ (v i_ cap1) h1 hc1 hA).mono ?_
 rintro _ _ _ _ ⟨r, rfl, h⟩
 exact h
end Go.Proofs.Ytomodhnocjmfpaa
