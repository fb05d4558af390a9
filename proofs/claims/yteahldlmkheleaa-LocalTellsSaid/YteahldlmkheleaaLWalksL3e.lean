/- Walks of the functions: each returns what its condition asks. -/
import Derived.Test.YteahldlmkheleaaLWalksS
set_option linter.all false
namespace Go.Proofs.Yteahldlmkheleaa
open Go Go.Sv
abbrev zL3e0 (i1 i2 i3 : Nat) : List (Nat × Nat) := [(i1, 901), (i2, 902), (i3, 903)]
set_option maxHeartbeats 1000000
theorem W14 (w0) (X0) (a_ : List Int) (b_ : List Int) (a1) (c1) (a2) (c2) (Q : Bool -> Prop) (hm : VC14 a_ b_ Q) (h1 : RS tI w0 X0 a1 a_ c1) (h2 : RS tI w0 X0 a2 b_ c2) :
  Ret Try.prog 14 #[.slice a1 a_.length c1, .slice a2 b_.length c2] aF w0 X0 (fun w X' v => ∃ r, Q r /\ v = .bool r) := by
 unfold VC14 at hm
 replace hm := hm (h1.sm kr)
 replace hm := hm (h2.sm kr)
 refine enter Try.func14 rfl (vals := [.slice a1 a_.length c1, .slice a2 b_.length c2]) kr ?_
 intro Z a hS hO hM
 replace h1 := h1.m0 hM
 replace h2 := h2.m0 hM
 refine rPb T hS [(0, Sl a1 a_ c1), (1, Sl a2 b_ c2)] fun a hS => ?_
 refine ba ?_
 refine rPb T hS [(0, Sl a1 a_ c1), (1, Sl a2 b_ c2), (10, B ((lN a_) != (lN b_)))] fun a hS => ?_
 refine aG hS (b := ((lN a_) != (lN b_))) kr (fun hb => ?_) fun hb => ?_
 ·replace hm := hm.1 hb
  refine rPb T hS [(4, B false)] fun a hS => ?_
  refine aU ?_
  exact fin T hS hO (fun c => c) rfl (r := [.bool false]) kr (fun X' hM hC => ⟨false, hm, rfl⟩)
 replace hm := hm.2 hb
 refine aJ ?_
 refine bU (fun a w => ∃ Z X, VC14_J1 Q /\ St Try.f14.ntmps ⟨[], []⟩ Z a w X /\ Old w0 X0 w X) ?_ ?_
 ·refine rPb T hS [(0, Sl a1 a_ c1), (1, Sl a2 b_ c2), (5, I 0)] fun a hS => ?_
  refine aO ?_
  obtain ⟨I1, μ1, hm0, hm⟩ := hm
  refine b8 (σ := Int) (fun s a w => ∃ Z X, I1 s /\ St Try.f14.ntmps ⟨[(0, Sl a1 a_ c1), (1, Sl a2 b_ c2), (5, I s)], []⟩ Z a w X /\ Old w0 X0 w X /\ RS tI w X a1 a_ c1 /\ RS tI w X a2 b_ c2) (fun s => μ1 s) (0) ?_ ?_
  ·exact ⟨Z, _, hm0, hS.sl _, hO, h1, h2⟩
  rintro y103 a w113 ⟨Z, X112, hI, hS, hO, h101, h102⟩
  replace hm := hm y103 hI
  clear hI hm0
  refine ba ?_
  refine rPb T hS [(0, Sl a1 a_ c1), (1, Sl a2 b_ c2), (5, I y103), (14, B (decide (y103 < (lN a_))))] fun a hS => ?_
  refine aG hS (b := decide (y103 < (lN a_))) kr (fun hb => ?_) fun hb => ?_
  ·replace hm := hm.1 hb
   refine aJ (ba ?_)
   refine aO ?_
   refine ct [] mixed hS ?_
   intro w104 X105 hS hE hD hH
   replace hO := hO.m2 hE
   replace h101 := h101.m1 hE
   replace h102 := h102.m1 hE
   refine tkb T [0, 1, 4, 5] [] hS hH #[true, true, false, false, true, true, false, false, false] 5 [(0, Sl a1 a_ c1), (1, Sl a2 b_ c2), (5, I y103), (17, Sl a1 a_ c1), (18, I y103), (21, Sl a2 b_ c2), (22, I y103)] fun a hS => ?_
   obtain ⟨hq, hm⟩ := hm
   refine cD (e := 3) (k := .i64) T 2 hS kr kr kr (by rfl) kr hH kr kr h101 kr kr hq.1 hq.2 ?_
   intro A106 a h107 hS
   have h107b := h107.here
   refine dB T 3 hS kr kr kr (by rfl) kr hH kr h107 h107b rfl kr ?_
   intro v108 a hv hS
   cases hv
   obtain ⟨hq, hm⟩ := hm
   refine cD (e := 3) (k := .i64) T 6 hS kr kr kr (by rfl) kr hH kr kr h102 kr kr hq.1 hq.2 ?_
   intro A109 a h110 hS
   have h110b := h110.here
   refine dB T 7 hS kr kr kr (by rfl) kr hH kr h110 h110b rfl kr ?_
   intro v111 a hv hS
   cases hv
   refine tkb T [8] [] hS hH (tts 9) 0 [(0, Sl a1 a_ c1), (1, Sl a2 b_ c2), (5, I y103), (25, B ((gi a_ y103) != (gi b_ y103)))] fun a hS => ?_
   refine aM kr ?_
   replace hS := hS.slb [(0, Sl a1 a_ c1), (1, Sl a2 b_ c2), (5, I y103), (25, B ((gi a_ y103) != (gi b_ y103)))]
   refine aG hS (b := ((gi a_ y103) != (gi b_ y103))) kr (fun hb => ?_) fun hb => ?_
   ·replace hm := hm.1 hb
    refine rPb T hS [(4, B false)] fun a hS => ?_
    refine aU ?_
    exact fin T hS hO (fun c => c) rfl (r := [.bool false]) kr (fun X' hM hC => ⟨false, hm, rfl⟩)
   replace hm := hm.2 hb
   refine aJ ?_
   refine region (ePb T hS [(0, Sl a1 a_ c1), (1, Sl a2 b_ c2), (5, I (wR (y103 + 1)))] fun a hS => ?_)
   exact ⟨wR (y103 + 1), ⟨Z, _, hm.1, hS.sl _, hO, h101, h102⟩, hm.2⟩
  replace hm := hm.2 hb
  refine b0 (by rfl) ?_
  exact ⟨Z, _, hm, hS.sl _, hO⟩
 rintro a w115 ⟨Z, X114, hm, hS, hO⟩
 unfold VC14_J1 at hm
 refine rPb T hS [(4, B true)] fun a hS => ?_
 refine aU ?_
 exact fin T hS hO (fun c => c) rfl (r := [.bool true]) kr (fun X' hM hC => ⟨true, hm, rfl⟩)
theorem C14 (v : ∀ (a_ : List Int) (b_ : List Int), VC14 a_ b_ (fun r => r = cw a_ b_)) : S14 := by
 intro w X a_ b_ a1 c1 a2 c2   h1 h2
 refine (W14 w X a_ b_ a1 c1 a2 c2   _ (v a_ b_) h1 h2).mono ?_
 rintro _ _ _ _ ⟨r, rfl, h⟩
 exact h
theorem W72 (w0) (X0) (s_ : List Int) (v_ : Int) (a1) (c1) (Q : Int -> Prop) (hm : VC72 s_ v_ Q) (h1 : RS tI w0 X0 a1 s_ c1) :
  Ret Try.prog 72 #[.slice a1 s_.length c1, .int .i64 v_] aF w0 X0 (fun w X' v => ∃ r, Q r /\ v = .int .i64 r) := by
 unfold VC72 at hm
 replace hm := hm (h1.sm kr)
 refine enter Try.func72 rfl (vals := [.slice a1 s_.length c1, .int .i64 v_]) kr ?_
 intro Z a hS hO hM
 replace h1 := h1.m0 hM
 refine rPb T hS [(0, Sl a1 s_ c1), (1, I v_)] fun a hS => ?_
 refine bU (fun a w => ∃ Z X, VC72_J1 Q /\ St Try.f72.ntmps ⟨[], []⟩ Z a w X /\ Old w0 X0 w X) ?_ ?_
 ·refine rPb T hS [(0, Sl a1 s_ c1), (1, I v_), (7, I (lN s_)), (8, I 0)] fun a hS => ?_
  refine aO ?_
  obtain ⟨I1, μ1, hm0, hm⟩ := hm
  refine b8 (σ := Int) (fun s a w => ∃ Z X, I1 s /\ St Try.f72.ntmps ⟨[(0, Sl a1 s_ c1), (1, I v_), (7, I (lN s_)), (8, I s)], []⟩ Z a w X /\ Old w0 X0 w X /\ RS tI w X a1 s_ c1) (fun s => μ1 s) (0) ?_ ?_
  ·exact ⟨Z, _, hm0, hS.sl _, hO, h1⟩
  rintro y102 a w107 ⟨Z, X106, hI, hS, hO, h101⟩
  replace hm := hm y102 hI
  clear hI hm0
  refine rPb T hS [(0, Sl a1 s_ c1), (1, I v_), (7, I (lN s_)), (8, I y102), (9, B (decide (y102 < (lN s_))))] fun a hS => ?_
  refine ba ?_
  refine aG hS (b := decide (y102 < (lN s_))) kr (fun hb => ?_) fun hb => ?_
  ·replace hm := hm.1 hb
   refine aJ (ba ?_)
   refine aO ?_
   refine rPb T hS [(0, Sl a1 s_ c1), (1, I v_), (5, I y102), (7, I (lN s_)), (8, I y102)] fun a hS => ?_
   refine bb ?_
   refine oPb T hS 3 [(0, Sl a1 s_ c1), (1, I v_), (5, I y102), (7, I (lN s_)), (8, I y102), (11, I v_), (12, Sl a1 s_ c1), (13, I y102)] fun a hS => ?_
   obtain ⟨hq, hm⟩ := hm
   refine op1 (index (e := 3) (k := .i64) T hS kr kr kr kr h101 kr kr hq.1 hq.2 ?_)
   intro A103 a h104 hS
   refine op1 (ec T hS kr kr kr h104 rfl kr ?_)
   intro v105 a hv hS
   cases hv
   refine ePb T hS [(0, Sl a1 s_ c1), (1, I v_), (5, I y102), (7, I (lN s_)), (8, I y102), (16, B (v_ == (gi s_ y102)))] fun a hS => ?_
   refine aG hS (b := (v_ == (gi s_ y102))) kr (fun hb => ?_) fun hb => ?_
   ·replace hm := hm.1 hb
    refine rPb T hS [(4, I y102)] fun a hS => ?_
    refine aU ?_
    exact fin T hS hO (fun c => c) rfl (r := [.int .i64 y102]) kr (fun X' hM hC => ⟨y102, hm, rfl⟩)
   replace hm := hm.2 hb
   refine aJ ?_
   refine region (ePb T hS [(0, Sl a1 s_ c1), (1, I v_), (7, I (lN s_)), (8, I (wR (y102 + 1)))] fun a hS => ?_)
   exact ⟨wR (y102 + 1), ⟨Z, _, hm.1, hS.sl _, hO, h101⟩, hm.2⟩
  replace hm := hm.2 hb
  refine b0 (by rfl) ?_
  exact ⟨Z, _, hm, hS.sl _, hO⟩
 rintro a w109 ⟨Z, X108, hm, hS, hO⟩
 unfold VC72_J1 at hm
 refine rPb T hS [(4, I (-1))] fun a hS => ?_
 refine aU ?_
 exact fin T hS hO (fun c => c) rfl (r := [.int .i64 (-1)]) kr (fun X' hM hC => ⟨(-1), hm, rfl⟩)
theorem C72 (v : ∀ (s_ : List Int) (v_ : Int), VC72 s_ v_ (fun r => r = cM s_ v_)) : S72 := by
 intro w X s_ v_ a1 c1   h1
 refine (W72 w X s_ v_ a1 c1   _ (v s_ v_) h1).mono ?_
 rintro _ _ _ _ ⟨r, rfl, h⟩
 exact h
theorem W61 (k72 : S72) (w0) (X0) (s_ : List Int) (v_ : Int) (a1) (c1) (Q : Bool -> Prop) (hm : VC61 s_ v_ Q) (h1 : RS tI w0 X0 a1 s_ c1) :
  Ret Try.prog 61 #[.slice a1 s_.length c1, .int .i64 v_] aF w0 X0 (fun w X' v => ∃ r, Q r /\ v = .bool r) := by
 unfold VC61 at hm
 replace hm := hm (h1.sm kr)
 refine enter Try.func61 rfl (vals := [.slice a1 s_.length c1, .int .i64 v_]) kr ?_
 intro Z a hS hO hM
 replace h1 := h1.m0 hM
 refine rPb T hS [(0, Sl a1 s_ c1), (1, I v_)] fun a hS => ?_
 refine bb ?_
 refine oPb T hS 2 [(5, Sl a1 s_ c1), (6, I v_)] fun a hS => ?_
 refine op1 (call hS kr kr hb72 kr (fun _ _ => rfl) (k72 _ _ s_ v_ a1 c1 h1) ?_)
 intro v101 a w102 X103 hE hp hS
 replace hO := hO.m2 hE
 replace h1 := h1.m1 hE
 obtain ⟨r104, hr⟩ : ∃ r, cM s_ v_ = r := ⟨_, rfl⟩
 replace hm := hm r104 hr
 rw [hr] at hp
 clear hr
 subst hp
 refine ePb T hS [(4, B (decide (r104 ≥ 0)))] fun a hS => ?_
 refine aU ?_
 exact fin T hS hO (fun c => c) rfl (r := [.bool (decide (r104 ≥ 0))]) kr (fun X' hM hC => ⟨(decide (r104 ≥ 0)), hm, rfl⟩)
theorem C61 (k72 : S72) (v : ∀ (s_ : List Int) (v_ : Int), VC61 s_ v_ (fun r => r = bM s_ v_)) : S61 := by
 intro w X s_ v_ a1 c1   h1
 refine (W61 k72 w X s_ v_ a1 c1   _ (v s_ v_) h1).mono ?_
 rintro _ _ _ _ ⟨r, rfl, h⟩
 exact h
theorem W36 (w0) (X0) (s_ : List aS) (a1) (c1) (Q : (List aS) -> Prop) (hm : VC36 s_ Q) (h1 : RS aw w0 X0 a1 s_ c1) :
  Ret Try.prog 36 #[.slice a1 s_.length c1] aF w0 X0 (fun w X' v => ∃ r, Q r /\ ∃ ra1 rc1, v = .slice ra1 r.length rc1 /\ RS aw w X' ra1 r rc1) := by
 unfold VC36 at hm
 replace hm := hm (h1.sm kr)
 refine enter Try.func36 rfl (vals := [.slice a1 s_.length c1]) kr ?_
 intro Z a hS hO hM
 replace h1 := h1.m0 hM
 refine rPb T hS [(0, Sl a1 s_ c1)] fun a hS => ?_
 refine ba ?_
 refine bb ?_
 refine oPb T hS 1 [(0, Sl a1 s_ c1), (3, Sl a1 s_ c1)] fun a hS => ?_
 obtain ⟨b101, hb102⟩ : ∃ q : Bool, a1.isNone = q := ⟨_, rfl⟩
 replace hm := hm b101 (h1.qg hb102)
 refine op1 (pO (e := 87) (m := s_.length) (c := c1) hS kr kr kr kr Try.underlying40 hb102 ?_)
 intro a hS
 clear hb102
 refine eO ?_
 refine aG hS (b := b101) kr (fun hb => ?_) fun hb => ?_
 ·replace hm := hm.1 hb
  refine rPb T hS [(2, V (.slice none 0 0))] fun a hS => ?_
  refine aU ?_
  exact fin T hS hO (fun c => c) rfl (r := [.slice none 0 0]) kr (fun X' hM hC => ⟨[], hm, none, 0, rfl, RS.empty _ _ _⟩)
 replace hm := hm.2 hb
 refine aJ ?_
 refine bb ?_
 refine op1 (lit (E := 87) (col := 1003) (T := aw) (vals := []) (ys := ([] : List aS)) T hS kr kr kr kr trivial rfl kr kr kr kr ?_)
 intro b103 a w104 X105 hE h106 hN hS
 clear hN
 replace hO := hO.m2 hE
 replace h1 := h1.m1 hE
 refine oPb T hS 1 [(5, Sl (some ⟨b103, 0, none⟩) ([] : List aS) 0), (6, Sl a1 s_ c1)] fun a hS => ?_
 obtain ⟨hq, hm⟩ := hm
 obtain ⟨news, hN⟩ := h1.src
 refine op1 (append (E := 87) (T := aw) (col := 1003) (xs := ([] : List aS)) T hS kr kr kr kr h106 hN kr kr kr kr hq ?_)
 intro a110 c111 a w107 X108 hE h109 hS
 clear hq hN
 clear h106
 replace hO := hO.m2 hE
 replace h1 := h1.m1 hE
 refine ePb T hS [(2, Sl a110 (([] : List aS) ++ s_) c111)] fun a hS => ?_
 refine aU ?_
 obtain ⟨X112, hE, hF⟩ := h109.freeze (by decide)
 replace hS := hS.ev hE (bW kr)
 replace hO := hO.m2 hE
 have h113 := hF; clear hE hF
 exact fin T hS hO (fun c => c) rfl (r := [.slice a110 (([] : List aS) ++ s_).length c111]) kr (fun X' hM hC => ⟨(([] : List aS) ++ s_), hm, a110, c111, rfl, h113.m0 hM⟩)
theorem C36 (v : ∀ (s_ : List aS), ny s_ -> VC36 s_ (fun r => r = bZ s_)) : S36 := by
 intro w X s_ a1 c1   hp h1
 refine (W36 w X s_ a1 c1   _ (v s_ hp) h1).mono ?_
 rintro _ _ _ _ ⟨r, rfl, h⟩
 exact h
theorem W60 (w0) (X0) (p_ : Int × Int) (n_ : Int) (Q : Bool -> Prop) (hm : VC60 p_ n_ Q) :
  Ret Try.prog 60 #[.agg #[.int .i64 p_.1, .int .i64 p_.2], .int .i64 n_] aF w0 X0 (fun w X' v => ∃ r, Q r /\ v = .bool r) := by
 unfold VC60 at hm
 refine enter Try.func60 rfl (vals := [.agg #[.int .i64 p_.1, .int .i64 p_.2], .int .i64 n_]) kr ?_
 intro Z a hS hO hM
 refine rM T hS ⟨[(1, I n_), (2, Pt 3 0)], [(3, (116, [I p_.1, I p_.2]))]⟩ fun Z a w101 X102 hS hE hr => ?_
 replace hO := hO.m2 hE
 clear hE hr
 refine rP T hS ⟨[(4, B (((decide ((if p_.2 < p_.1 then p_.2 else p_.1) ≥ 0)) && (decide ((if p_.2 > p_.1 then p_.2 else p_.1) < n_))) && (p_.1 != p_.2)))], []⟩ (sp := [11, 20]) fun a hS => ?_
 refine aU ?_
 exact fin T hS hO (fun c => c) rfl (r := [.bool (((decide ((if p_.2 < p_.1 then p_.2 else p_.1) ≥ 0)) && (decide ((if p_.2 > p_.1 then p_.2 else p_.1) < n_))) && (p_.1 != p_.2))]) kr (fun X' hM hC => ⟨(((decide ((if p_.2 < p_.1 then p_.2 else p_.1) ≥ 0)) && (decide ((if p_.2 > p_.1 then p_.2 else p_.1) < n_))) && (p_.1 != p_.2)), hm, rfl⟩)
theorem C60 (v : ∀ (p_ : Int × Int) (n_ : Int), VC60 p_ n_ (fun r => r = c9 p_ n_)) : S60 := by
 intro w X p_ n_    
 refine (W60 w X p_ n_    _ (v p_ n_)).mono ?_
 rintro _ _ _ _ ⟨r, rfl, h⟩
 exact h
theorem W59 (k60 : S60) (k61 : S61) (w0) (X0) (p_ : Int × Int) (cap1 : Int) (cap2 : Int) (cap3 : List Int) (a1) (c1) (b1) (i1) (b2) (i2) (b3) (i3) (Q : Bool -> Prop) (hm : VC59 p_ cap1 cap2 cap3 Q) (h1 : RS tI w0 X0 a1 cap3 c1) (hc1 : Cell w0 X0 b1 i1 3 [.int .i64 cap1]) (hc2 : Cell w0 X0 b2 i2 3 [.int .i64 cap2]) (hc3 : Cell w0 X0 b3 i3 36 [.slice a1 cap3.length c1]) (hA : cH [i1, i2, i3]) :
  Ret Try.prog 59 #[.agg #[.int .i64 p_.1, .int .i64 p_.2], .pointer (some ⟨b1, 0, none⟩), .pointer (some ⟨b2, 0, none⟩), .pointer (some ⟨b3, 0, none⟩)] (pR [i1, i2, i3]) w0 X0 (fun w X' v => ∃ r, Q r /\ v = .bool r /\ Cell w X' b1 i1 3 [.int .i64 cap1] /\ Cell w X' b2 i2 3 [.int .i64 cap2] /\ Cell w X' b3 i3 36 [.slice a1 cap3.length c1]) := by
 unfold VC59 at hm
 replace hm := hm (h1.sm kr)
 refine dI Try.func59 rfl (cy (zL3e0 i1 i2 i3)) (fun id => (bif Nat.beq id 901 then b1 else (bif Nat.beq id 902 then b2 else (bif Nat.beq id 903 then b3 else 0)))) (args := [V (.agg #[.int .i64 p_.1, .int .i64 p_.2]), Pt 901 0, Pt 902 0, Pt 903 0]) (bxs := [(901, (3, [I cap1])), (902, (3, [I cap2])), (903, (36, [Sl a1 cap3 c1]))]) kr rfl (a8.cons kr (hc1.map (bn 0 hA.1 rfl)) (a8.cons kr (hc2.map (bn 1 hA.1 rfl)) (a8.cons kr (hc3.map (bn 2 hA.1 rfl)) a8.nil))) (dA (fun q hq => (hA.2 q.1 (List.mem_map.2 ⟨q, hq, rfl⟩)).1)) ?_
 intro a hS hO hM
 have hP : Pin [(901, b1), (902, b2), (903, b3)] (fun id => (bif Nat.beq id 901 then b1 else (bif Nat.beq id 902 then b2 else (bif Nat.beq id 903 then b3 else 0)))) := by intro q hq; simp at hq; rcases hq with rfl | rfl | rfl <;> rfl
 generalize (fun id => (bif Nat.beq id 901 then b1 else (bif Nat.beq id 902 then b2 else (bif Nat.beq id 903 then b3 else 0)))) = Z at hS hP
 clear hc1 hc2 hc3
 replace h1 := h1.m0 hM
 refine rM T hS ⟨[(1, Pt 901 0), (2, Pt 902 0), (3, Pt 903 0), (4, Pt 5 0)], [(5, (116, [I p_.1, I p_.2])), (901, (3, [I cap1])), (902, (3, [I cap2])), (903, (36, [Sl a1 cap3 c1]))]⟩ fun Z a w109 X110 hS hE hr => ?_
 replace hO := hO.m2 hE
 replace h1 := h1.m1 hE
 replace hP := hP.mv hr kr
 clear hE hr
 refine bb ?_
 refine oPb T hS 2 [(2, Pt 902 0), (3, Pt 903 0), (4, Pt 5 0), (6, V (.agg #[.int .i64 p_.1, .int .i64 p_.2])), (7, I cap1)] fun a hS => ?_
 refine op1 (call hS kr kr hb60 kr (fun _ _ => rfl) (k60 _ _ (p_.1, p_.2) cap1) ?_)
 intro v101 a w102 X103 hE hp hS
 replace hO := hO.m2 hE
 replace h1 := h1.m1 hE
 obtain ⟨r104, hr⟩ : ∃ r, c9 (p_.1, p_.2) cap1 = r := ⟨_, rfl⟩
 replace hm := hm r104 hr
 rw [hr] at hp
 clear hr
 subst hp
 refine oPb T hS 7 [(3, Pt 903 0), (4, Pt 5 0), (15, B (r104 && (p_.2 == cap2)))] (sp := [9]) fun a hS => ?_
 rcases bft (r104 && (p_.2 == cap2)) with hb | hb
 ·replace hS := hS.lit (t := 15) kr hb
  replace hm := hm.1 hb
  refine oP T hS 3 ⟨[(15, B true), (16, Sl a1 cap3 c1), (18, I p_.1)], [(901, (3, [I cap1])), (902, (3, [I cap2])), (903, (36, [Sl a1 cap3 c1]))]⟩ fun a hS => ?_
  refine op1 (call hS kr kr hb61 kr (fun _ _ => rfl) (k61 _ _ cap3 p_.1 a1 c1 h1) ?_)
  intro v105 a w106 X107 hE hp hS
  replace hO := hO.m2 hE
  replace h1 := h1.m1 hE
  obtain ⟨r108, hr⟩ : ∃ r, bM cap3 p_.1 = r := ⟨_, rfl⟩
  replace hm := hm r108 hr
  rw [hr] at hp
  clear hr
  subst hp
  refine ePb T hS [(5, B (!r108))] fun a hS => ?_
  refine aU ?_
  exact eA T hS hO (fun c h => bu kr h) (fun c h => bw (l := (zL3e0 i1 i2 i3)) h) (bq (zL3e0 i1 i2 i3)) rfl (r := [.bool (!r108)]) kr (fun X' hM hC => ⟨(!r108), hm, rfl, ((hS.cell (id := 901) (t := 3) (cs := [I cap1]) kr).out (f := (bq (zL3e0 i1 i2 i3))) hC kr kr (hP.at 0 rfl)), ((hS.cell (id := 902) (t := 3) (cs := [I cap2]) kr).out (f := (bq (zL3e0 i1 i2 i3))) hC kr kr (hP.at 1 rfl)), ((hS.cell (id := 903) (t := 36) (cs := [Sl a1 cap3 c1]) kr).out (f := (bq (zL3e0 i1 i2 i3))) hC kr kr (hP.at 2 rfl))⟩)
 replace hS := hS.lit (t := 15) kr hb
 replace hm := hm.2 hb
 refine eP T hS ⟨[(5, B false)], [(901, (3, [I cap1])), (902, (3, [I cap2])), (903, (36, [Sl a1 cap3 c1]))]⟩ fun a hS => ?_
 refine aU ?_
 exact eA T hS hO (fun c h => bu kr h) (fun c h => bw (l := (zL3e0 i1 i2 i3)) h) (bq (zL3e0 i1 i2 i3)) rfl (r := [.bool false]) kr (fun X' hM hC => ⟨false, hm, rfl, ((hS.cell (id := 901) (t := 3) (cs := [I cap1]) kr).out (f := (bq (zL3e0 i1 i2 i3))) hC kr kr (hP.at 0 rfl)), ((hS.cell (id := 902) (t := 3) (cs := [I cap2]) kr).out (f := (bq (zL3e0 i1 i2 i3))) hC kr kr (hP.at 1 rfl)), ((hS.cell (id := 903) (t := 36) (cs := [Sl a1 cap3 c1]) kr).out (f := (bq (zL3e0 i1 i2 i3))) hC kr kr (hP.at 2 rfl))⟩)
theorem C59 (k60 : S60) (k61 : S61) (v : ∀ (p_ : Int × Int) (cap1 : Int) (cap2 : Int) (cap3 : List Int), VC59 p_ cap1 cap2 cap3 (fun r => r = bH p_ cap1 cap2 cap3)) : S59 := by
 intro w X p_ cap1 cap2 cap3 a1 c1  b1 i1 b2 i2 b3 i3 h1 hc1 hc2 hc3 hA
 refine (W59 k60 k61 w X p_ cap1 cap2 cap3 a1 c1  b1 i1 b2 i2 b3 i3 _ (v p_ cap1 cap2 cap3) h1 hc1 hc2 hc3 hA).mono ?_
 rintro _ _ _ _ ⟨r, rfl, h⟩
 exact h
theorem W73_59 (k59 : S59) (w0) (X0) (s_ : List (Int × Int)) (cap1 : Int) (cap2 : Int) (cap3 : List Int) (a1) (c1) (a2) (c2) (b1) (i1) (b2) (i2) (b3) (i3) (Q : Int -> Prop) (hm : VC73_59 s_ cap1 cap2 cap3 Q) (h1 : RS tP2 w0 X0 a1 s_ c1) (h2 : RS tI w0 X0 a2 cap3 c2) (hc1 : Cell w0 X0 b1 i1 3 [.int .i64 cap1]) (hc2 : Cell w0 X0 b2 i2 3 [.int .i64 cap2]) (hc3 : Cell w0 X0 b3 i3 36 [.slice a2 cap3.length c2]) (hA : cH [i1, i2, i3]) :
  Ret Try.prog 73 #[.slice a1 s_.length c1, .func (.func 59) #[] #[.pointer (some ⟨b1, 0, none⟩), .pointer (some ⟨b2, 0, none⟩), .pointer (some ⟨b3, 0, none⟩)]] (pR [i1, i2, i3]) w0 X0 (fun w X' v => ∃ r, Q r /\ v = .int .i64 r /\ Cell w X' b1 i1 3 [.int .i64 cap1] /\ Cell w X' b2 i2 3 [.int .i64 cap2] /\ Cell w X' b3 i3 36 [.slice a2 cap3.length c2]) := by
 unfold VC73_59 at hm
 replace hm := hm (h1.sm kr)
 replace hm := hm (h2.sm kr)
 refine dI Try.func73 rfl (cy (zL3e0 i1 i2 i3)) (fun id => (bif Nat.beq id 901 then b1 else (bif Nat.beq id 902 then b2 else (bif Nat.beq id 903 then b3 else 0)))) (args := [Sl a1 s_ c1, .f (.func 59) [] [.p 901 0, .p 902 0, .p 903 0]]) (bxs := [(901, (3, [I cap1])), (902, (3, [I cap2])), (903, (36, [Sl a2 cap3 c2]))]) kr rfl (a8.cons kr (hc1.map (bn 0 hA.1 rfl)) (a8.cons kr (hc2.map (bn 1 hA.1 rfl)) (a8.cons kr (hc3.map (bn 2 hA.1 rfl)) a8.nil))) (dA (fun q hq => (hA.2 q.1 (List.mem_map.2 ⟨q, hq, rfl⟩)).1)) ?_
 intro a hS hO hM
 have hP : Pin [(901, b1), (902, b2), (903, b3)] (fun id => (bif Nat.beq id 901 then b1 else (bif Nat.beq id 902 then b2 else (bif Nat.beq id 903 then b3 else 0)))) := by intro q hq; simp at hq; rcases hq with rfl | rfl | rfl <;> rfl
 generalize (fun id => (bif Nat.beq id 901 then b1 else (bif Nat.beq id 902 then b2 else (bif Nat.beq id 903 then b3 else 0)))) = Z at hS hP
 clear hc1 hc2 hc3
 replace h1 := h1.m0 hM
 replace h2 := h2.m0 hM
 refine rPb T hS [(0, Sl a1 s_ c1), (1, .f (.func 59) [] [.p 901 0, .p 902 0, .p 903 0])] fun a hS => ?_
 refine bU (fun a w => ∃ Z X, VC73_59_J1 Q /\ St Try.f73.ntmps ⟨[], [(901, (3, [I cap1])), (902, (3, [I cap2])), (903, (36, [Sl a2 cap3 c2]))]⟩ Z a w X /\ dR (cy (zL3e0 i1 i2 i3)) w0 X0 w X /\ Pin [(901, b1), (902, b2), (903, b3)] Z /\ RS tI w X a2 cap3 c2) ?_ ?_
 ·refine rPb T hS [(0, Sl a1 s_ c1), (1, .f (.func 59) [] [.p 901 0, .p 902 0, .p 903 0]), (7, I (lN s_)), (8, I 0)] fun a hS => ?_
  refine aO ?_
  obtain ⟨I1, μ1, hm0, hm⟩ := hm
  refine b8 (σ := Int) (fun s a w => ∃ Z X, I1 s /\ St Try.f73.ntmps ⟨[(0, Sl a1 s_ c1), (1, .f (.func 59) [] [.p 901 0, .p 902 0, .p 903 0]), (7, I (lN s_)), (8, I s)], [(901, (3, [I cap1])), (902, (3, [I cap2])), (903, (36, [Sl a2 cap3 c2]))]⟩ Z a w X /\ dR (cy (zL3e0 i1 i2 i3)) w0 X0 w X /\ Pin [(901, b1), (902, b2), (903, b3)] Z /\ RS tP2 w X a1 s_ c1 /\ RS tI w X a2 cap3 c2) (fun s => μ1 s) (0) ?_ ?_
  ·exact ⟨Z, _, hm0, hS.sl _, hO, hP, h1, h2⟩
  rintro y103 a w116 ⟨Z, X115, hI, hS, hO, hP, h102, h104⟩
  replace hm := hm y103 hI
  clear hI hm0
  refine rPb T hS [(0, Sl a1 s_ c1), (1, .f (.func 59) [] [.p 901 0, .p 902 0, .p 903 0]), (7, I (lN s_)), (8, I y103), (9, B (decide (y103 < (lN s_))))] fun a hS => ?_
  refine ba ?_
  refine aG hS (b := decide (y103 < (lN s_))) kr (fun hb => ?_) fun hb => ?_
  ·replace hm := hm.1 hb
   refine aJ (ba ?_)
   refine aO ?_
   refine rPb T hS [(0, Sl a1 s_ c1), (1, .f (.func 59) [] [.p 901 0, .p 902 0, .p 903 0]), (5, I y103), (7, I (lN s_)), (8, I y103)] fun a hS => ?_
   refine bb ?_
   refine oPb T hS 3 [(0, Sl a1 s_ c1), (1, .f (.func 59) [] [.p 901 0, .p 902 0, .p 903 0]), (5, I y103), (7, I (lN s_)), (8, I y103), (11, .f (.func 59) [] [.p 901 0, .p 902 0, .p 903 0]), (12, Sl a1 s_ c1), (13, I y103)] fun a hS => ?_
   obtain ⟨hq, hm⟩ := hm
   refine op1 (index (e := 116) (k := .i64) T hS kr kr kr kr h102 kr kr hq.1 hq.2 ?_)
   intro A105 a h106 hS
   refine op1 (di T hS kr kr kr h106 kr kr ?_)
   intro v107 a hv hS
   subst hv
   refine op1 (fR (fi := []) (cp := [.p 901 0, .p 902 0, .p 903 0]) hS kr kr hb59 kr kr (k59 _ _ (gi s_ y103) cap1 cap2 cap3 a2 c2 (Z 901) 901 (Z 902) 902 (Z 903) 903 h104 (hS.cell (id := 901) (t := 3) (cs := [I cap1]) kr) (hS.cell (id := 902) (t := 3) (cs := [I cap2]) kr) (hS.cell (id := 903) (t := 36) (cs := [Sl a2 cap3 c2]) kr) ⟨by decide, by decide⟩) ?_)
   intro v108 a w109 X110 hE hp hS
   replace hO := hO.m2 hE
   replace h102 := h102.m1 hE
   replace h104 := h104.m1 hE
   replace h106 := h106.m1 hE
   obtain ⟨hp, hc112, hc113, hc114⟩ := hp
   obtain ⟨r111, hr⟩ : ∃ r, bH (gi s_ y103) cap1 cap2 cap3 = r := ⟨_, rfl⟩
   replace hm := hm r111 hr
   rw [hr] at hp
   clear hr
   subst hp
   replace hS := hS.bQ (id := 901) (t := 3) (cs := [I cap1]) kr hc112
   replace hS := hS.bQ (id := 902) (t := 3) (cs := [I cap2]) kr hc113
   replace hS := hS.bQ (id := 903) (t := 36) (cs := [Sl a2 cap3 c2]) kr hc114
   clear hc112 hc113 hc114
   refine eO ?_
   refine aG hS (b := r111) kr (fun hb => ?_) fun hb => ?_
   ·replace hm := hm.1 hb
    refine rPb T hS [(4, I y103)] fun a hS => ?_
    refine aU ?_
    exact eA T hS hO (fun c h => bu kr h) (fun c h => bw (l := (zL3e0 i1 i2 i3)) h) (bq (zL3e0 i1 i2 i3)) rfl (r := [.int .i64 y103]) kr (fun X' hM hC => ⟨y103, hm, rfl, ((hS.cell (id := 901) (t := 3) (cs := [I cap1]) kr).out (f := (bq (zL3e0 i1 i2 i3))) hC kr kr (hP.at 0 rfl)), ((hS.cell (id := 902) (t := 3) (cs := [I cap2]) kr).out (f := (bq (zL3e0 i1 i2 i3))) hC kr kr (hP.at 1 rfl)), ((hS.cell (id := 903) (t := 36) (cs := [Sl a2 cap3 c2]) kr).out (f := (bq (zL3e0 i1 i2 i3))) hC kr kr (hP.at 2 rfl))⟩)
   replace hm := hm.2 hb
   refine aJ ?_
   refine region (ePb T hS [(0, Sl a1 s_ c1), (1, .f (.func 59) [] [.p 901 0, .p 902 0, .p 903 0]), (7, I (lN s_)), (8, I (wR (y103 + 1)))] fun a hS => ?_)
   exact ⟨wR (y103 + 1), ⟨Z, _, hm.1, hS.sl _, hO, hP, h102, h104⟩, hm.2⟩
  replace hm := hm.2 hb
  refine b0 (by rfl) ?_
  exact ⟨Z, _, hm, hS.sl _, hO, hP, h104⟩
 rintro a w118 ⟨Z, X117, hm, hS, hO, hP, h101⟩
 unfold VC73_59_J1 at hm
 refine rPb T hS [(4, I (-1))] fun a hS => ?_
 refine aU ?_
 exact eA T hS hO (fun c h => bu kr h) (fun c h => bw (l := (zL3e0 i1 i2 i3)) h) (bq (zL3e0 i1 i2 i3)) rfl (r := [.int .i64 (-1)]) kr (fun X' hM hC => ⟨(-1), hm, rfl, ((hS.cell (id := 901) (t := 3) (cs := [I cap1]) kr).out (f := (bq (zL3e0 i1 i2 i3))) hC kr kr (hP.at 0 rfl)), ((hS.cell (id := 902) (t := 3) (cs := [I cap2]) kr).out (f := (bq (zL3e0 i1 i2 i3))) hC kr kr (hP.at 1 rfl)), ((hS.cell (id := 903) (t := 36) (cs := [Sl a2 cap3 c2]) kr).out (f := (bq (zL3e0 i1 i2 i3))) hC kr kr (hP.at 2 rfl))⟩)
theorem C73_59 (k59 : S59) (v : ∀ (s_ : List (Int × Int)) (cap1 : Int) (cap2 : Int) (cap3 : List Int), VC73_59 s_ cap1 cap2 cap3 (fun r => r = aZ s_ cap1 cap2 cap3)) : S73_59 := by
 intro w X s_ cap1 cap2 cap3 a1 c1 a2 c2  b1 i1 b2 i2 b3 i3 h1 h2 hc1 hc2 hc3 hA
 refine (W73_59 k59 w X s_ cap1 cap2 cap3 a1 c1 a2 c2  b1 i1 b2 i2 b3 i3 _ (v s_ cap1 cap2 cap3) h1 h2 hc1 hc2 hc3 hA).mono ?_
 rintro _ _ _ _ ⟨r, rfl, h⟩
 exact h
theorem W62_59 (k73_59 : S73_59) (w0) (X0) (s_ : List (Int × Int)) (cap1 : Int) (cap2 : Int) (cap3 : List Int) (a1) (c1) (a2) (c2) (b1) (i1) (b2) (i2) (b3) (i3) (Q : Bool -> Prop) (hm : VC62_59 s_ cap1 cap2 cap3 Q) (h1 : RS tP2 w0 X0 a1 s_ c1) (h2 : RS tI w0 X0 a2 cap3 c2) (hc1 : Cell w0 X0 b1 i1 3 [.int .i64 cap1]) (hc2 : Cell w0 X0 b2 i2 3 [.int .i64 cap2]) (hc3 : Cell w0 X0 b3 i3 36 [.slice a2 cap3.length c2]) (hA : cH [i1, i2, i3]) :
  Ret Try.prog 62 #[.slice a1 s_.length c1, .func (.func 59) #[] #[.pointer (some ⟨b1, 0, none⟩), .pointer (some ⟨b2, 0, none⟩), .pointer (some ⟨b3, 0, none⟩)]] (pR [i1, i2, i3]) w0 X0 (fun w X' v => ∃ r, Q r /\ v = .bool r /\ Cell w X' b1 i1 3 [.int .i64 cap1] /\ Cell w X' b2 i2 3 [.int .i64 cap2] /\ Cell w X' b3 i3 36 [.slice a2 cap3.length c2]) := by
 unfold VC62_59 at hm
 replace hm := hm (h1.sm kr)
 replace hm := hm (h2.sm kr)
 refine dI Try.func62 rfl (cy (zL3e0 i1 i2 i3)) (fun id => (bif Nat.beq id 901 then b1 else (bif Nat.beq id 902 then b2 else (bif Nat.beq id 903 then b3 else 0)))) (args := [Sl a1 s_ c1, .f (.func 59) [] [.p 901 0, .p 902 0, .p 903 0]]) (bxs := [(901, (3, [I cap1])), (902, (3, [I cap2])), (903, (36, [Sl a2 cap3 c2]))]) kr rfl (a8.cons kr (hc1.map (bn 0 hA.1 rfl)) (a8.cons kr (hc2.map (bn 1 hA.1 rfl)) (a8.cons kr (hc3.map (bn 2 hA.1 rfl)) a8.nil))) (dA (fun q hq => (hA.2 q.1 (List.mem_map.2 ⟨q, hq, rfl⟩)).1)) ?_
 intro a hS hO hM
 have hP : Pin [(901, b1), (902, b2), (903, b3)] (fun id => (bif Nat.beq id 901 then b1 else (bif Nat.beq id 902 then b2 else (bif Nat.beq id 903 then b3 else 0)))) := by intro q hq; simp at hq; rcases hq with rfl | rfl | rfl <;> rfl
 generalize (fun id => (bif Nat.beq id 901 then b1 else (bif Nat.beq id 902 then b2 else (bif Nat.beq id 903 then b3 else 0)))) = Z at hS hP
 clear hc1 hc2 hc3
 replace h1 := h1.m0 hM
 replace h2 := h2.m0 hM
 refine rPb T hS [(0, Sl a1 s_ c1), (1, .f (.func 59) [] [.p 901 0, .p 902 0, .p 903 0])] fun a hS => ?_
 refine bb ?_
 refine oPb T hS 2 [(5, Sl a1 s_ c1), (6, .f (.func 59) [] [.p 901 0, .p 902 0, .p 903 0])] fun a hS => ?_
 refine op1 (gH hS kr kr hb73 kr (k73_59 _ _ s_ cap1 cap2 cap3 a1 c1 a2 c2 (Z 901) 901 (Z 902) 902 (Z 903) 903 h1 h2 (hS.cell (id := 901) (t := 3) (cs := [I cap1]) kr) (hS.cell (id := 902) (t := 3) (cs := [I cap2]) kr) (hS.cell (id := 903) (t := 36) (cs := [Sl a2 cap3 c2]) kr) ⟨by decide, by decide⟩) ?_)
 intro v101 a w102 X103 hE hp hS
 replace hO := hO.m2 hE
 replace h1 := h1.m1 hE
 replace h2 := h2.m1 hE
 obtain ⟨hp, hc105, hc106, hc107⟩ := hp
 obtain ⟨r104, hr⟩ : ∃ r, aZ s_ cap1 cap2 cap3 = r := ⟨_, rfl⟩
 replace hm := hm r104 hr
 rw [hr] at hp
 clear hr
 subst hp
 replace hS := hS.bQ (id := 901) (t := 3) (cs := [I cap1]) kr hc105
 replace hS := hS.bQ (id := 902) (t := 3) (cs := [I cap2]) kr hc106
 replace hS := hS.bQ (id := 903) (t := 36) (cs := [Sl a2 cap3 c2]) kr hc107
 clear hc105 hc106 hc107
 refine ePb T hS [(4, B (decide (r104 ≥ 0)))] fun a hS => ?_
 refine aU ?_
 exact eA T hS hO (fun c h => bu kr h) (fun c h => bw (l := (zL3e0 i1 i2 i3)) h) (bq (zL3e0 i1 i2 i3)) rfl (r := [.bool (decide (r104 ≥ 0))]) kr (fun X' hM hC => ⟨(decide (r104 ≥ 0)), hm, rfl, ((hS.cell (id := 901) (t := 3) (cs := [I cap1]) kr).out (f := (bq (zL3e0 i1 i2 i3))) hC kr kr (hP.at 0 rfl)), ((hS.cell (id := 902) (t := 3) (cs := [I cap2]) kr).out (f := (bq (zL3e0 i1 i2 i3))) hC kr kr (hP.at 1 rfl)), ((hS.cell (id := 903) (t := 36) (cs := [Sl a2 cap3 c2]) kr).out (f := (bq (zL3e0 i1 i2 i3))) hC kr kr (hP.at 2 rfl))⟩)
theorem C62_59 (k73_59 : S73_59) (v : ∀ (s_ : List (Int × Int)) (cap1 : Int) (cap2 : Int) (cap3 : List Int), VC62_59 s_ cap1 cap2 cap3 (fun r => r = bh s_ cap1 cap2 cap3)) : S62_59 := by
 intro w X s_ cap1 cap2 cap3 a1 c1 a2 c2  b1 i1 b2 i2 b3 i3 h1 h2 hc1 hc2 hc3 hA
 refine (W62_59 k73_59 w X s_ cap1 cap2 cap3 a1 c1 a2 c2  b1 i1 b2 i2 b3 i3 _ (v s_ cap1 cap2 cap3) h1 h2 hc1 hc2 hc3 hA).mono ?_
 rintro _ _ _ _ ⟨r, rfl, h⟩
 exact h
theorem W58 (k61 : S61) (k62_59 : S62_59) (w0) (X0) (x_ : Int) (cap1 : Int) (cap2 : List Int) (cap3 : List (Int × Int)) (a1) (c1) (a2) (c2) (b1) (i1) (b2) (i2) (b3) (i3) (Q : Bool -> Prop) (hm : VC58 x_ cap1 cap2 cap3 Q) (h1 : RS tI w0 X0 a1 cap2 c1) (h2 : RS tP2 w0 X0 a2 cap3 c2) (hc1 : Cell w0 X0 b1 i1 3 [.int .i64 cap1]) (hc2 : Cell w0 X0 b2 i2 36 [.slice a1 cap2.length c1]) (hc3 : Cell w0 X0 b3 i3 94 [.slice a2 cap3.length c2]) (hA : cH [i1, i2, i3]) :
  Ret Try.prog 58 #[.int .i64 x_, .pointer (some ⟨b1, 0, none⟩), .pointer (some ⟨b2, 0, none⟩), .pointer (some ⟨b3, 0, none⟩)] (pR [i1, i2, i3]) w0 X0 (fun w X' v => ∃ r, Q r /\ v = .bool r /\ Cell w X' b1 i1 3 [.int .i64 cap1] /\ Cell w X' b2 i2 36 [.slice a1 cap2.length c1] /\ Cell w X' b3 i3 94 [.slice a2 cap3.length c2]) := by
 unfold VC58 at hm
 replace hm := hm (h1.sm kr)
 replace hm := hm (h2.sm kr)
 refine dI Try.func58 rfl (cy (zL3e0 i1 i2 i3)) (fun id => (bif Nat.beq id 901 then b1 else (bif Nat.beq id 902 then b2 else (bif Nat.beq id 903 then b3 else 0)))) (args := [I x_, Pt 901 0, Pt 902 0, Pt 903 0]) (bxs := [(901, (3, [I cap1])), (902, (36, [Sl a1 cap2 c1])), (903, (94, [Sl a2 cap3 c2]))]) kr rfl (a8.cons kr (hc1.map (bn 0 hA.1 rfl)) (a8.cons kr (hc2.map (bn 1 hA.1 rfl)) (a8.cons kr (hc3.map (bn 2 hA.1 rfl)) a8.nil))) (dA (fun q hq => (hA.2 q.1 (List.mem_map.2 ⟨q, hq, rfl⟩)).1)) ?_
 intro a hS hO hM
 have hP : Pin [(901, b1), (902, b2), (903, b3)] (fun id => (bif Nat.beq id 901 then b1 else (bif Nat.beq id 902 then b2 else (bif Nat.beq id 903 then b3 else 0)))) := by intro q hq; simp at hq; rcases hq with rfl | rfl | rfl <;> rfl
 generalize (fun id => (bif Nat.beq id 901 then b1 else (bif Nat.beq id 902 then b2 else (bif Nat.beq id 903 then b3 else 0)))) = Z at hS hP
 clear hc1 hc2 hc3
 replace h1 := h1.m0 hM
 replace h2 := h2.m0 hM
 refine rM T hS ⟨[(1, Pt 901 0), (2, Pt 902 0), (3, Pt 903 0), (4, Pt 5 0)], [(5, (3, [I x_])), (901, (3, [I cap1])), (902, (36, [Sl a1 cap2 c1])), (903, (94, [Sl a2 cap3 c2]))]⟩ fun Z a w112 X113 hS hE hr => ?_
 replace hO := hO.m2 hE
 replace h1 := h1.m1 hE
 replace h2 := h2.m1 hE
 replace hP := hP.mv hr kr
 clear hE hr
 refine rPb T hS [(2, Pt 902 0), (3, Pt 903 0), (4, Pt 5 0), (6, .f (.func 59) [] [.p 901 0, .p 5 0, .p 902 0])] fun a hS => ?_
 refine bb ?_
 refine oPb T hS 2 [(3, Pt 903 0), (6, .f (.func 59) [] [.p 901 0, .p 5 0, .p 902 0]), (8, Sl a1 cap2 c1), (9, I x_)] fun a hS => ?_
 refine op1 (call hS kr kr hb61 kr (fun _ _ => rfl) (k61 _ _ cap2 x_ a1 c1 h1) ?_)
 intro v101 a w102 X103 hE hp hS
 replace hO := hO.m2 hE
 replace h1 := h1.m1 hE
 replace h2 := h2.m1 hE
 obtain ⟨r104, hr⟩ : ∃ r, bM cap2 x_ = r := ⟨_, rfl⟩
 replace hm := hm r104 hr
 rw [hr] at hp
 clear hr
 subst hp
 refine oPb T hS 1 [(3, Pt 903 0), (6, .f (.func 59) [] [.p 901 0, .p 5 0, .p 902 0]), (11, B r104)] fun a hS => ?_
 rcases bft r104 with hb | hb
 ·replace hS := hS.lit (t := 11) kr hb
  replace hm := hm.1 hb
  refine eP T hS ⟨[(5, B true)], [(901, (3, [I cap1])), (902, (36, [Sl a1 cap2 c1])), (903, (94, [Sl a2 cap3 c2]))]⟩ fun a hS => ?_
  refine aU ?_
  exact eA T hS hO (fun c h => bu kr h) (fun c h => bw (l := (zL3e0 i1 i2 i3)) h) (bq (zL3e0 i1 i2 i3)) rfl (r := [.bool true]) kr (fun X' hM hC => ⟨true, hm, rfl, ((hS.cell (id := 901) (t := 3) (cs := [I cap1]) kr).out (f := (bq (zL3e0 i1 i2 i3))) hC kr kr (hP.at 0 rfl)), ((hS.cell (id := 902) (t := 36) (cs := [Sl a1 cap2 c1]) kr).out (f := (bq (zL3e0 i1 i2 i3))) hC kr kr (hP.at 1 rfl)), ((hS.cell (id := 903) (t := 94) (cs := [Sl a2 cap3 c2]) kr).out (f := (bq (zL3e0 i1 i2 i3))) hC kr kr (hP.at 2 rfl))⟩)
 replace hS := hS.lit (t := 11) kr hb
 replace hm := hm.2 hb
 refine oPb T hS 2 [(11, B false), (12, Sl a2 cap3 c2), (13, .f (.func 59) [] [.p 901 0, .p 5 0, .p 902 0])] fun a hS => ?_
 refine op1 (gH hS kr kr hb62 kr (k62_59 _ _ cap3 cap1 x_ cap2 a2 c2 a1 c1 (Z 901) 901 (Z 5) 5 (Z 902) 902 h2 h1 (hS.cell (id := 901) (t := 3) (cs := [I cap1]) kr) (hS.cell (id := 5) (t := 3) (cs := [I x_]) kr) (hS.cell (id := 902) (t := 36) (cs := [Sl a1 cap2 c1]) kr) ⟨by decide, by decide⟩) ?_)
 intro v105 a w106 X107 hE hp hS
 replace hO := hO.m2 hE
 replace h1 := h1.m1 hE
 replace h2 := h2.m1 hE
 obtain ⟨hp, hc109, hc110, hc111⟩ := hp
 obtain ⟨r108, hr⟩ : ∃ r, bh cap3 cap1 x_ cap2 = r := ⟨_, rfl⟩
 replace hm := hm r108 hr
 rw [hr] at hp
 clear hr
 subst hp
 replace hS := hS.bQ (id := 901) (t := 3) (cs := [I cap1]) kr hc109
 replace hS := hS.bQ (id := 5) (t := 3) (cs := [I x_]) kr hc110
 replace hS := hS.bQ (id := 902) (t := 36) (cs := [Sl a1 cap2 c1]) kr hc111
 clear hc109 hc110 hc111
 refine eP T hS ⟨[(5, B r108)], [(901, (3, [I cap1])), (902, (36, [Sl a1 cap2 c1])), (903, (94, [Sl a2 cap3 c2]))]⟩ fun a hS => ?_
 refine aU ?_
 exact eA T hS hO (fun c h => bu kr h) (fun c h => bw (l := (zL3e0 i1 i2 i3)) h) (bq (zL3e0 i1 i2 i3)) rfl (r := [.bool r108]) kr (fun X' hM hC => ⟨r108, hm, rfl, ((hS.cell (id := 901) (t := 3) (cs := [I cap1]) kr).out (f := (bq (zL3e0 i1 i2 i3))) hC kr kr (hP.at 0 rfl)), ((hS.cell (id := 902) (t := 36) (cs := [Sl a1 cap2 c1]) kr).out (f := (bq (zL3e0 i1 i2 i3))) hC kr kr (hP.at 1 rfl)), ((hS.cell (id := 903) (t := 94) (cs := [Sl a2 cap3 c2]) kr).out (f := (bq (zL3e0 i1 i2 i3))) hC kr kr (hP.at 2 rfl))⟩)
theorem C58 (k61 : S61) (k62_59 : S62_59) (v : ∀ (x_ : Int) (cap1 : Int) (cap2 : List Int) (cap3 : List (Int × Int)), VC58 x_ cap1 cap2 cap3 (fun r => r = cb x_ cap1 cap2 cap3)) : S58 := by
 intro w X x_ cap1 cap2 cap3 a1 c1 a2 c2  b1 i1 b2 i2 b3 i3 h1 h2 hc1 hc2 hc3 hA
 refine (W58 k61 k62_59 w X x_ cap1 cap2 cap3 a1 c1 a2 c2  b1 i1 b2 i2 b3 i3 _ (v x_ cap1 cap2 cap3) h1 h2 hc1 hc2 hc3 hA).mono ?_
 rintro _ _ _ _ ⟨r, rfl, h⟩
 exact h
theorem W41 (k58 : S58) (w0) (X0) (n_ : Int) (pairs : List (Int × Int)) (a1) (c1) (Q : (List Int) × Bool -> Prop) (hm : VC41 n_ pairs Q) (h1 : RS tP2 w0 X0 a1 pairs c1) :
  Ret Try.prog 41 #[.int .i64 n_, .slice a1 pairs.length c1] aF w0 X0 (fun w X' v => ∃ r, Q r /\ ∃ ra1 rc1, v = .tuple #[.slice ra1 r.1.length rc1, .bool r.2] /\ RS tI w X' ra1 r.1 rc1) := by
 unfold VC41 at hm
 replace hm := hm (h1.sm kr)
 refine enter Try.func41 rfl (vals := [.int .i64 n_, .slice a1 pairs.length c1]) kr ?_
 intro Z a hS hO hM
 replace h1 := h1.m0 hM
 refine rM T hS ⟨[(2, Pt 3 0), (3, Pt 4 0)], [(3, (3, [I n_])), (4, (94, [Sl a1 pairs c1]))]⟩ fun Z a w167 X168 hS hE hr => ?_
 replace hO := hO.m2 hE
 replace h1 := h1.m1 hE
 clear hE hr
 refine ba ?_
 refine rPb T hS [(2, Pt 3 0), (3, Pt 4 0), (14, B ((decide (n_ < 0)) || (decide (n_ > 64))))] (sp := [11]) fun a hS => ?_
 refine aG hS (b := ((decide (n_ < 0)) || (decide (n_ > 64)))) kr (fun hb => ?_) fun hb => ?_
 ·replace hm := hm.1 hb
  refine rP T hS ⟨[(4, V (.slice none 0 0)), (5, B false)], []⟩ fun a hS => ?_
  refine aU ?_
  exact fin T hS hO (fun c => c) rfl (r := [.slice none 0 0, .bool false]) kr (fun X' hM hC => ⟨([], false), hm, none, 0, rfl, RS.empty _ _ _⟩)
 replace hm := hm.2 hb
 refine aJ ?_
 refine bb ?_
 refine oPb T hS 1 [(2, Pt 3 0), (3, Pt 4 0), (15, I n_)] fun a hS => ?_
 obtain ⟨hq, hm⟩ := hm
 refine op1 (make (E := 3) (kl := .i64) (kc := .i64) (col := 1005) (T := tI) T 0 hS kr kr kr kr kr kr hq.1 hq.2.1 (by have := hq.2.2; have e_ : ((tI.bytes : Nat) : Int) = 8 := rfl; rw [e_]; omega) (by have := hq.2.2; omega) (fun _ _ => rfl) ?_)
 intro b101 a w102 X103 hE h104 hN hS
 clear hq hN
 replace hO := hO.m2 hE
 replace h1 := h1.m1 hE
 replace hS := hS.conv (t := 16) (y := .slice (some ⟨b101, 0, none⟩) (List.replicate (0 : Int).toNat (0 : Int)).length n_.toNat) kr (by rw [List.length_replicate])
 refine eM T hS ⟨[(2, Pt 3 0), (3, Pt 4 0), (6, Pt 7 0)], [(3, (3, [I n_])), (4, (94, [Sl a1 pairs c1])), (7, (36, [V (.slice (some ⟨b101, 0, none⟩) (List.replicate (0 : Int).toNat (0 : Int)).length n_.toNat)]))]⟩ fun Z a w165 X166 hS hE hr => ?_
 replace hO := hO.m2 hE
 replace h1 := h1.m1 hE
 replace h104 := h104.m2 hE
 clear hE hr
 refine rPb T hS [(2, Pt 3 0), (6, Pt 7 0), (7, .f (.func 58) [] [.p 3 0, .p 7 0, .p 4 0])] fun a hS => ?_
 refine bU (fun a w => ∃ (Z : Nat -> Nat) (X : Nat -> Nat) (y105 : List Int) (a106 : Option Addr) (c107 : Nat), VC41_J1 Q y105 /\ St Try.f41.ntmps ⟨[(6, Pt 7 0)], [(7, (36, [Sl a106 y105 c107]))]⟩ Z a w X /\ Old w0 X0 w X /\ OS tI 3 w X 1005 a106 y105 c107) ?_ ?_
 ·refine aO ?_
  obtain ⟨I1, μ1, hm0, hm⟩ := hm
  refine b8 (σ := (List Int)) (fun s a w => ∃ Z X a113 c114, I1 s /\ St Try.f41.ntmps ⟨[(2, Pt 3 0), (6, Pt 7 0), (7, .f (.func 58) [] [.p 3 0, .p 7 0, .p 4 0])], [(3, (3, [I n_])), (4, (94, [Sl a1 pairs c1])), (7, (36, [Sl a113 s c114]))]⟩ Z a w X /\ Old w0 X0 w X /\ RS tP2 w X a1 pairs c1 /\ OS tI 3 w X 1005 a113 s c114) (fun s => μ1 s) (List.replicate (0 : Int).toNat (0 : Int)) ?_ ?_
  ·exact ⟨Z, _, (some ⟨b101, 0, none⟩), n_.toNat, hm0, hS.sl _, hO, h1, h104⟩
  rintro y112 a w162 ⟨Z, X161, a113, c114, hI, hS, hO, h111, h115⟩
  replace hm := hm y112 hI
  clear hI hm0
  refine ba ?_
  refine rPb T hS [(2, Pt 3 0), (6, Pt 7 0), (7, .f (.func 58) [] [.p 3 0, .p 7 0, .p 4 0]), (21, B (decide ((lN y112) < n_)))] fun a hS => ?_
  refine aG hS (b := decide ((lN y112) < n_)) kr (fun hb => ?_) fun hb => ?_
  ·replace hm := hm.1 hb
   refine aJ ?_
   refine aO ?_
   refine rPb T hS [(2, Pt 3 0), (6, Pt 7 0), (7, .f (.func 58) [] [.p 3 0, .p 7 0, .p 4 0]), (8, I 0)] fun a hS => ?_
   refine bU (fun a w => ∃ (Z : Nat -> Nat) (X : Nat -> Nat) (y116 : Int) (y118 : List Int) (a119 : Option Addr) (c120 : Nat), VC41_J2 n_ Q I1 μ1 y112 y116 y118 /\ St Try.f41.ntmps ⟨[(2, Pt 3 0), (6, Pt 7 0), (7, .f (.func 58) [] [.p 3 0, .p 7 0, .p 4 0]), (8, I y116)], [(3, (3, [I n_])), (4, (94, [Sl a1 pairs c1])), (7, (36, [Sl a119 y118 c120]))]⟩ Z a w X /\ Old w0 X0 w X /\ RS tP2 w X a1 pairs c1 /\ OS tI 3 w X 1005 a119 y118 c120) ?_ ?_
   ·refine aO ?_
    obtain ⟨I2, μ2, hm0, hm⟩ := hm
    refine b8 (σ := Int × (List Int)) (fun s a w => ∃ Z X a136 c137, I2 s.1 s.2 /\ St Try.f41.ntmps ⟨[(2, Pt 3 0), (6, Pt 7 0), (7, .f (.func 58) [] [.p 3 0, .p 7 0, .p 4 0]), (8, I s.1)], [(3, (3, [I n_])), (4, (94, [Sl a1 pairs c1])), (7, (36, [Sl a136 s.2 c137]))]⟩ Z a w X /\ Old w0 X0 w X /\ RS tP2 w X a1 pairs c1 /\ OS tI 3 w X 1005 a136 s.2 c137) (fun s => μ2 s.1 s.2) (⟨0, y112⟩) ?_ ?_
    ·exact ⟨Z, _, a113, c114, hm0, hS.sl _, hO, h111, h115⟩
    rintro ⟨y133, y135⟩ a w158 ⟨Z, X157, a136, c137, hI, hS, hO, h134, h138⟩
    replace hm := hm y133 y135 hI
    clear hI hm0
    refine ba ?_
    refine bU (fun a w => ∃ (Z : Nat -> Nat) (X : Nat -> Nat) (y139 : Bool) (y141 : List Int) (a142 : Option Addr) (c143 : Nat), VC41_J3 n_ Q I1 μ1 y112 I2 μ2 y133 y135 y139 y141 /\ St Try.f41.ntmps ⟨[(2, Pt 3 0), (6, Pt 7 0), (7, .f (.func 58) [] [.p 3 0, .p 7 0, .p 4 0]), (8, I y133), (29, B y139)], [(3, (3, [I n_])), (4, (94, [Sl a1 pairs c1])), (7, (36, [Sl a142 y141 c143]))]⟩ Z a w X /\ Old w0 X0 w X /\ RS tP2 w X a1 pairs c1 /\ OS tI 3 w X 1005 a142 y141 c143) ?_ ?_
    ·refine region ?_
     refine oPb T hS 4 [(2, Pt 3 0), (6, Pt 7 0), (7, .f (.func 58) [] [.p 3 0, .p 7 0, .p 4 0]), (8, I y133), (25, B (decide (y133 < n_)))] fun a hS => ?_
     rcases bft (decide (y133 < n_)) with hb | hb
     ·replace hS := hS.lit (t := 25) kr hb
      replace hm := hm.1 hb
      refine oPb T hS 2 [(2, Pt 3 0), (6, Pt 7 0), (7, .f (.func 58) [] [.p 3 0, .p 7 0, .p 4 0]), (8, I y133), (25, B true), (26, .f (.func 58) [] [.p 3 0, .p 7 0, .p 4 0]), (27, I y133)] fun a hS => ?_
      have hb149 := (hS.cell (id := 3) (t := 3) (cs := [I n_]) kr)
      have hb150 := (hS.cell (id := 7) (t := 36) (cs := [Sl a136 y135 c137]) kr)
      have hb151 := (hS.cell (id := 4) (t := 94) (cs := [Sl a1 pairs c1]) kr)
      refine op1 (fR (fi := []) (cp := [.p 3 0, .p 7 0, .p 4 0]) hS kr kr hb58 kr kr (Ret.lb kr (k58 _ (dt 1005 _) y133 n_ y135 pairs a136 c137 a1 c1 (Z 3) 3 (Z 7) 7 (Z 4) 4 h138.dt (h134.m0 (M0.dt 1005)) (hb149.dt kr) (hb150.dt kr) (hb151.dt kr) ⟨by decide, by decide⟩)) ?_)
      intro v145 a w146 X147 hE hp hS
      replace hO := hO.m2 hE
      replace h134 := h134.m1 hE
      replace h138 := h138.m2 hE
      obtain ⟨hkeep, _, hp⟩ := hp
      obtain ⟨hp, hc152, hc153, hc154⟩ := hp
      replace hc152 := hc152.back hb149 hkeep
      replace hc153 := hc153.back hb150 hkeep
      replace hc154 := hc154.back hb151 hkeep
      clear hkeep hb149 hb150 hb151
      obtain ⟨r148, hr⟩ : ∃ r, cb y133 n_ y135 pairs = r := ⟨_, rfl⟩
      replace hm := hm r148 hr
      rw [hr] at hp
      clear hr
      subst hp
      replace hS := hS.bQ (id := 3) (t := 3) (cs := [I n_]) kr hc152
      replace hS := hS.bQ (id := 7) (t := 36) (cs := [Sl a136 y135 c137]) kr hc153
      replace hS := hS.bQ (id := 4) (t := 94) (cs := [Sl a1 pairs c1]) kr hc154
      clear hc152 hc153 hc154
      refine ePb T hS [(2, Pt 3 0), (6, Pt 7 0), (7, .f (.func 58) [] [.p 3 0, .p 7 0, .p 4 0]), (8, I y133), (29, B r148)] fun a hS => ?_
      exact ⟨Z, _, r148, y135, a136, c137, hm, hS.sl _, hO, h134, h138⟩
     replace hS := hS.lit (t := 25) kr hb
     replace hm := hm.2 hb
     refine ePb T hS [(2, Pt 3 0), (6, Pt 7 0), (7, .f (.func 58) [] [.p 3 0, .p 7 0, .p 4 0]), (8, I y133), (29, B false)] fun a hS => ?_
     exact ⟨Z, _, false, y135, a136, c137, hm, hS.sl _, hO, h134, h138⟩
    rintro a w156 ⟨Z, X155, y139, y141, a142, c143, hm, hS, hO, h140, h144⟩
    unfold VC41_J3 at hm
    refine aG hS (b := y139) kr (fun hb => ?_) fun hb => ?_
    ·replace hm := hm.1 hb
     refine aJ ?_
     refine aO ?_
     refine region (ePb T hS [(2, Pt 3 0), (6, Pt 7 0), (7, .f (.func 58) [] [.p 3 0, .p 7 0, .p 4 0]), (8, I (wR (y133 + 1)))] fun a hS => ?_)
     exact ⟨⟨wR (y133 + 1), y141⟩, ⟨Z, _, a142, c143, hm.1, hS.sl _, hO, h140, h144⟩, hm.2⟩
    replace hm := hm.2 hb
    refine b0 (by rfl) ?_
    exact ⟨Z, _, y133, y141, a142, c143, hm, hS.sl _, hO, h140, h144⟩
   rintro a w160 ⟨Z, X159, y116, y118, a119, c120, hm, hS, hO, h117, h121⟩
   unfold VC41_J2 at hm
   refine ba ?_
   refine rPb T hS [(2, Pt 3 0), (6, Pt 7 0), (7, .f (.func 58) [] [.p 3 0, .p 7 0, .p 4 0]), (8, I y116), (34, B (y116 == n_))] fun a hS => ?_
   refine aG hS (b := (y116 == n_)) kr (fun hb => ?_) fun hb => ?_
   ·replace hm := hm.1 hb
    refine rP T hS ⟨[(4, V (.slice none 0 0)), (5, B false)], []⟩ fun a hS => ?_
    refine aU ?_
    exact fin T hS hO (fun c => c) rfl (r := [.slice none 0 0, .bool false]) kr (fun X' hM hC => ⟨([], false), hm, none, 0, rfl, RS.empty _ _ _⟩)
   replace hm := hm.2 hb
   refine aJ ?_
   refine region ?_
   refine oPb T hS 2 [(2, Pt 3 0), (6, Pt 7 0), (7, .f (.func 58) [] [.p 3 0, .p 7 0, .p 4 0]), (35, Sl a119 y118 c120), (36, I y116)] fun a hS => ?_
   refine op1 (lit (E := 3) (col := 0) (T := tI) (vals := [.int .i64 y116]) (ys := [y116]) T hS kr kr kr kr (by exact ⟨rfl, trivial⟩) rfl kr kr kr kr ?_)
   intro b122 a w123 X124 hE h125 hN hS
   clear hN
   replace hO := hO.m2 hE
   replace h117 := h117.m1 hE
   replace h121 := h121.m2 hE
   replace h125 := h125.rs0
   obtain ⟨hq, hm⟩ := hm
   obtain ⟨news, hN⟩ := h125.src
   refine op1 (append (E := 3) (T := tI) (col := 1005) (xs := y118) T hS kr kr kr kr h121 hN kr kr kr kr hq ?_)
   intro a129 c130 a w126 X127 hE h128 hS
   clear hq hN
   clear h121
   replace hO := hO.m2 hE
   replace h117 := h117.m1 hE
   replace h125 := h125.m1 hE
   refine eM T hS ⟨[(2, Pt 3 0), (6, Pt 7 0), (7, .f (.func 58) [] [.p 3 0, .p 7 0, .p 4 0])], [(3, (3, [I n_])), (4, (94, [Sl a1 pairs c1])), (7, (36, [Sl a129 (y118 ++ [y116]) c130]))]⟩ fun Z a w131 X132 hS hE hr => ?_
   replace hO := hO.m2 hE
   replace h117 := h117.m1 hE
   replace h128 := h128.m2 hE
   clear hE hr
   exact ⟨y118 ++ [y116], ⟨Z, _, a129, c130, hm.1, hS.sl _, hO, h117, h128⟩, hm.2⟩
  replace hm := hm.2 hb
  refine b0 (by rfl) ?_
  exact ⟨Z, _, y112, a113, c114, hm, hS.sl _, hO, h115⟩
 rintro a w164 ⟨Z, X163, y105, a106, c107, hm, hS, hO, h108⟩
 unfold VC41_J1 at hm
 refine rP T hS ⟨[(4, Sl a106 y105 c107), (5, B true)], []⟩ fun a hS => ?_
 refine aU ?_
 obtain ⟨X109, hE, hF⟩ := h108.freeze (by decide)
 replace hS := hS.ev hE (bW kr)
 replace hO := hO.m2 hE
 have h110 := hF; clear hE hF
 exact fin T hS hO (fun c => c) rfl (r := [.slice a106 y105.length c107, .bool true]) kr (fun X' hM hC => ⟨(y105, true), hm, a106, c107, rfl, h110.m0 hM⟩)
theorem C41 (k58 : S58) (v : ∀ (n_ : Int) (pairs : List (Int × Int)), VC41 n_ pairs (fun r => r = cc n_ pairs)) : S41 := by
 intro w X n_ pairs a1 c1   h1
 refine (W41 k58 w X n_ pairs a1 c1   _ (v n_ pairs) h1).mono ?_
 rintro _ _ _ _ ⟨r, rfl, h⟩
 exact h
theorem W27 (w0) (X0) (h_ : ak) (a1) (c1) (a2) (c2) (Q : (List al) -> Prop) (hm : VC27 h_ Q) (h1 : RS aE w0 X0 a1 h_.ae c1) (h2 : RS aK w0 X0 a2 h_.aj c2) :
  Ret Try.prog 27 #[.agg #[.slice a1 h_.ae.length c1, .slice a2 h_.aj.length c2]] aF w0 X0 (fun w X' v => ∃ r, Q r /\ ∃ ra1 rc1, v = .slice ra1 r.length rc1 /\ RS az w X' ra1 r rc1) := by
 unfold VC27 at hm
 replace hm := hm (h1.sm kr)
 replace hm := hm (h2.sm kr)
 refine enter Try.func27 rfl (vals := [.agg #[.slice a1 h_.ae.length c1, .slice a2 h_.aj.length c2]]) kr ?_
 intro Z a hS hO hM
 replace h1 := h1.m0 hM
 replace h2 := h2.m0 hM
 refine rM T hS ⟨[(1, Pt 2 0)], [(2, (25, [Sl a1 h_.ae c1, Sl a2 h_.aj c2]))]⟩ fun Z a w131 X132 hS hE hr => ?_
 replace hO := hO.m2 hE
 replace h1 := h1.m1 hE
 replace h2 := h2.m1 hE
 clear hE hr
 refine rPb T hS [(1, Pt 2 0), (3, V (.slice none 0 0))] fun a hS => ?_
 refine bU (fun a w => ∃ (Z : Nat -> Nat) (X : Nat -> Nat) (y101 : List al) (a102 : Option Addr) (c103 : Nat), VC27_J1 Q y101 /\ St Try.f27.ntmps ⟨[(3, Sl a102 y101 c103)], []⟩ Z a w X /\ Old w0 X0 w X /\ OS az 62 w X 1003 a102 y101 c103) ?_ ?_
 ·refine rP T hS ⟨[(3, V (.slice none 0 0)), (7, Sl a2 h_.aj c2), (8, I (lN h_.aj)), (9, I 0)], []⟩ fun a hS => ?_
  refine aO ?_
  obtain ⟨I1, μ1, hm0, hm⟩ := hm
  refine b8 (σ := (List al) × Int) (fun s a w => ∃ Z X a108 c109, I1 s.1 s.2 /\ St Try.f27.ntmps ⟨[(3, Sl a108 s.1 c109), (7, Sl a2 h_.aj c2), (8, I (lN h_.aj)), (9, I s.2)], []⟩ Z a w X /\ Old w0 X0 w X /\ OS az 62 w X 1003 a108 s.1 c109 /\ RS aK w X a2 h_.aj c2) (fun s => μ1 s.1 s.2) (⟨[], 0⟩) ?_ ?_
  ·exact ⟨Z, _, none, 0, hm0, hS.sl _, hO, (OS.nil _ _ _ _ _), h2⟩
  rintro ⟨y107, y112⟩ a w128 ⟨Z, X127, a108, c109, hI, hS, hO, h110, h111⟩
  replace hm := hm y107 y112 hI
  clear hI hm0
  refine rPb T hS [(3, Sl a108 y107 c109), (7, Sl a2 h_.aj c2), (8, I (lN h_.aj)), (9, I y112), (10, B (decide (y112 < (lN h_.aj))))] fun a hS => ?_
  refine ba ?_
  refine aG hS (b := decide (y112 < (lN h_.aj))) kr (fun hb => ?_) fun hb => ?_
  ·replace hm := hm.1 hb
   refine aJ (ba ?_)
   refine aO ?_
   refine bb ?_
   obtain ⟨hq, hm⟩ := hm
   refine op1 (index (e := 64) (k := .i64) T hS kr kr kr kr h111 kr kr hq.1 hq.2 ?_)
   intro A113 a h114 hS
   refine op1 (di T hS kr kr kr h114 kr kr ?_)
   intro v115 a hv hS
   subst hv
   refine eM T hS ⟨[(3, Sl a108 y107 c109), (5, Pt 6 0), (7, Sl a2 h_.aj c2), (8, I (lN h_.aj)), (9, I y112)], [(6, (64, [I ((gi h_.aj y112).ar), I (((gi h_.aj y112).aH).aY), I (((gi h_.aj y112).aH).ab), I (((gi h_.aj y112).aH).N)]))]⟩ fun Z a w125 X126 hS hE hr => ?_
   replace hO := hO.m2 hE
   replace h110 := h110.m2 hE
   replace h111 := h111.m1 hE
   clear hE hr
   refine region ?_
   refine oP T hS 3 ⟨[(3, Sl a108 y107 c109), (7, Sl a2 h_.aj c2), (8, I (lN h_.aj)), (9, I y112), (13, Sl a108 y107 c109), (15, V (.agg #[.int .i64 (((gi h_.aj y112).aH).aY), .int .i64 (((gi h_.aj y112).aH).ab), .int .i64 (((gi h_.aj y112).aH).N)]))], []⟩ fun a hS => ?_
   refine op1 (lit (E := 62) (col := 0) (T := az) (vals := [.agg #[.int .i64 (((gi h_.aj y112).aH).aY), .int .i64 (((gi h_.aj y112).aH).ab), .int .i64 (((gi h_.aj y112).aH).N)]]) (ys := [((gi h_.aj y112).aH)]) T hS kr kr kr kr (by exact ⟨rfl, trivial⟩) rfl kr kr kr kr ?_)
   intro b116 a w117 X118 hE h119 hN hS
   clear hN
   replace hO := hO.m2 hE
   replace h110 := h110.m2 hE
   replace h111 := h111.m1 hE
   replace h119 := h119.rs0
   obtain ⟨hq, hm⟩ := hm
   obtain ⟨news, hN⟩ := h119.src
   refine op1 (append (E := 62) (T := az) (col := 1003) (xs := y107) T hS kr kr kr kr h110 hN kr kr kr kr hq ?_)
   intro a123 c124 a w120 X121 hE h122 hS
   clear hq hN
   clear h110
   replace hO := hO.m2 hE
   replace h111 := h111.m1 hE
   replace h119 := h119.m1 hE
   refine ePb T hS [(3, Sl a123 (y107 ++ [((gi h_.aj y112).aH)]) c124), (7, Sl a2 h_.aj c2), (8, I (lN h_.aj)), (9, I y112)] fun a hS => ?_
   refine region (ePb T hS [(3, Sl a123 (y107 ++ [((gi h_.aj y112).aH)]) c124), (7, Sl a2 h_.aj c2), (8, I (lN h_.aj)), (9, I (wR (y112 + 1)))] fun a hS => ?_)
   exact ⟨⟨y107 ++ [((gi h_.aj y112).aH)], wR (y112 + 1)⟩, ⟨Z, _, a123, c124, hm.1, hS.sl _, hO, h122, h111⟩, hm.2⟩
  replace hm := hm.2 hb
  refine b0 (by rfl) ?_
  exact ⟨Z, _, y107, a108, c109, hm, hS.sl _, hO, h110⟩
 rintro a w130 ⟨Z, X129, y101, a102, c103, hm, hS, hO, h104⟩
 unfold VC27_J1 at hm
 refine rPb T hS [(2, Sl a102 y101 c103)] fun a hS => ?_
 refine aU ?_
 obtain ⟨X105, hE, hF⟩ := h104.freeze (by decide)
 replace hS := hS.ev hE (bW kr)
 replace hO := hO.m2 hE
 have h106 := hF; clear hE hF
 exact fin T hS hO (fun c => c) rfl (r := [.slice a102 y101.length c103]) kr (fun X' hM hC => ⟨y101, hm, a102, c103, rfl, h106.m0 hM⟩)
theorem C27 (v : ∀ (h_ : ak), fZ h_ -> VC27 h_ (fun r => r = bK h_)) : S27 := by
 intro w X h_ a1 c1 a2 c2   hp h1 h2
 refine (W27 w X h_ a1 c1 a2 c2   _ (v h_ hp) h1 h2).mono ?_
 rintro _ _ _ _ ⟨r, rfl, h⟩
 exact h
theorem W23 (k24 : S24) (w0) (X0) (o_ : ai) (a1) (c1) (Q : Bool -> Prop) (hm : VC23 o_ Q) (h1 : RS aw w0 X0 a1 o_.Rows c1) :
  Ret Try.prog 23 #[.agg #[.int .i64 o_.ao, .int .i64 o_.av, .int .i64 o_.aC, .slice a1 o_.Rows.length c1]] aF w0 X0 (fun w X' v => ∃ r, Q r /\ v = .bool r) := by
 unfold VC23 at hm
 replace hm := hm (h1.sm kr)
 refine enter Try.func23 rfl (vals := [.agg #[.int .i64 o_.ao, .int .i64 o_.av, .int .i64 o_.aC, .slice a1 o_.Rows.length c1]]) kr ?_
 intro Z a hS hO hM
 replace h1 := h1.m0 hM
 refine rM T hS ⟨[(1, Pt 2 0)], [(2, (42, (cO o_ a1 c1)))]⟩ fun Z a w105 X106 hS hE hr => ?_
 replace hO := hO.m2 hE
 replace h1 := h1.m1 hE
 clear hE hr
 refine bb ?_
 refine oP T hS 1 ⟨[(6, V (.agg #[.int .i64 o_.ao, .int .i64 o_.av, .int .i64 o_.aC, .slice a1 o_.Rows.length c1]))], []⟩ fun a hS => ?_
 obtain ⟨hq, hm⟩ := hm
 refine op1 (call hS kr kr hb24 kr (fun _ _ => rfl) (k24 _ _ o_ a1 c1 hq h1) ?_)
 intro v101 a w102 X103 hE hp hS
 replace hO := hO.m2 hE
 replace h1 := h1.m1 hE
 obtain ⟨r104, hr⟩ : ∃ r, bd o_ = r := ⟨_, rfl⟩
 replace hm := hm r104 hr
 rw [hr] at hp
 clear hr
 subst hp
 refine ePb T hS [(4, I r104.2)] fun a hS => ?_
 refine rPb T hS [(2, B (r104.2 != 0))] fun a hS => ?_
 refine aU ?_
 exact fin T hS hO (fun c => c) rfl (r := [.bool (r104.2 != 0)]) kr (fun X' hM hC => ⟨(r104.2 != 0), hm, rfl⟩)
theorem C23 (k24 : S24) (v : ∀ (o_ : ai), fV o_ -> VC23 o_ (fun r => r = b7 o_)) : S23 := by
 intro w X o_ a1 c1   hp h1
 refine (W23 k24 w X o_ a1 c1   _ (v o_ hp) h1).mono ?_
 rintro _ _ _ _ ⟨r, rfl, h⟩
 exact h
theorem W49_23 (k23 : S23) (w0) (X0) (s_ : List ai) (a1) (c1) (Q : Int -> Prop) (hm : VC49_23 s_ Q) (h1 : RS aE w0 X0 a1 s_ c1) (hA : cH []) :
  Ret Try.prog 49 #[.slice a1 s_.length c1, .func (.func 23) #[] #[]] (pR []) w0 X0 (fun w X' v => ∃ r, Q r /\ v = .int .i64 r) := by
 unfold VC49_23 at hm
 replace hm := hm (h1.sm kr)
 refine dI Try.func49 rfl (cy []) (fun id => 0) (args := [Sl a1 s_ c1, .f (.func 23) [] []]) (bxs := []) kr rfl a8.nil (dA (fun q hq => (hA.2 q.1 (List.mem_map.2 ⟨q, hq, rfl⟩)).1)) ?_
 intro a hS hO hM
 generalize (fun id : Nat => 0) = Z at hS
 replace h1 := h1.m0 hM
 refine rPb T hS [(0, Sl a1 s_ c1), (1, .f (.func 23) [] [])] fun a hS => ?_
 refine bU (fun a w => ∃ Z X, VC49_23_J1 Q /\ St Try.f49.ntmps ⟨[], []⟩ Z a w X /\ dR (cy []) w0 X0 w X) ?_ ?_
 ·refine rPb T hS [(0, Sl a1 s_ c1), (1, .f (.func 23) [] []), (7, I (lN s_)), (8, I 0)] fun a hS => ?_
  refine aO ?_
  obtain ⟨I1, μ1, hm0, hm⟩ := hm
  refine b8 (σ := Int) (fun s a w => ∃ Z X, I1 s /\ St Try.f49.ntmps ⟨[(0, Sl a1 s_ c1), (1, .f (.func 23) [] []), (7, I (lN s_)), (8, I s)], []⟩ Z a w X /\ dR (cy []) w0 X0 w X /\ RS aE w X a1 s_ c1) (fun s => μ1 s) (0) ?_ ?_
  ·exact ⟨Z, _, hm0, hS.sl _, hO, h1⟩
  rintro y102 a w114 ⟨Z, X113, hI, hS, hO, h101⟩
  replace hm := hm y102 hI
  clear hI hm0
  refine rPb T hS [(0, Sl a1 s_ c1), (1, .f (.func 23) [] []), (7, I (lN s_)), (8, I y102), (9, B (decide (y102 < (lN s_))))] fun a hS => ?_
  refine ba ?_
  refine aG hS (b := decide (y102 < (lN s_))) kr (fun hb => ?_) fun hb => ?_
  ·replace hm := hm.1 hb
   refine aJ (ba ?_)
   refine aO ?_
   refine rPb T hS [(0, Sl a1 s_ c1), (1, .f (.func 23) [] []), (5, I y102), (7, I (lN s_)), (8, I y102)] fun a hS => ?_
   refine bb ?_
   refine oPb T hS 3 [(0, Sl a1 s_ c1), (1, .f (.func 23) [] []), (5, I y102), (7, I (lN s_)), (8, I y102), (11, .f (.func 23) [] []), (12, Sl a1 s_ c1), (13, I y102)] fun a hS => ?_
   obtain ⟨hq, hm⟩ := hm
   refine op1 (index (e := 42) (k := .i64) T hS kr kr kr kr h101 kr kr hq.1 hq.2 ?_)
   intro A103 a h104 hS
   refine op1 (di T hS kr kr kr h104 kr kr ?_)
   intro v105 a hv hS
   obtain ⟨a106, c107, hv, h108⟩ := hv
   subst hv
   replace hm := hm (h108.sm kr)
   obtain ⟨hq, hm⟩ := hm
   refine op1 (pP (fi := []) (cp := []) hS kr kr hb23 kr kr (fun _ _ => rfl) (k23 _ _ (gi s_ y102) a106 c107 hq h108) ?_)
   intro v109 a w110 X111 hE hp hS
   replace hO := hO.m2 hE
   replace h101 := h101.m1 hE
   replace h104 := h104.m1 hE
   replace h108 := h108.m1 hE
   obtain ⟨r112, hr⟩ : ∃ r, b7 (gi s_ y102) = r := ⟨_, rfl⟩
   replace hm := hm r112 hr
   rw [hr] at hp
   clear hr
   subst hp
   refine eO ?_
   refine aG hS (b := r112) kr (fun hb => ?_) fun hb => ?_
   ·replace hm := hm.1 hb
    refine rPb T hS [(4, I y102)] fun a hS => ?_
    refine aU ?_
    exact eA T hS hO (fun c h => bu kr h) (fun c h => bw (l := []) h) (bq []) rfl (r := [.int .i64 y102]) kr (fun X' hM hC => ⟨y102, hm, rfl⟩)
   replace hm := hm.2 hb
   refine aJ ?_
   refine region (ePb T hS [(0, Sl a1 s_ c1), (1, .f (.func 23) [] []), (7, I (lN s_)), (8, I (wR (y102 + 1)))] fun a hS => ?_)
   exact ⟨wR (y102 + 1), ⟨Z, _, hm.1, hS.sl _, hO, h101⟩, hm.2⟩
  replace hm := hm.2 hb
  refine b0 (by rfl) ?_
  exact ⟨Z, _, hm, hS.sl _, hO⟩
 rintro a w116 ⟨Z, X115, hm, hS, hO⟩
 unfold VC49_23_J1 at hm
 refine rPb T hS [(4, I (-1))] fun a hS => ?_
 refine aU ?_
 exact eA T hS hO (fun c h => bu kr h) (fun c h => bw (l := []) h) (bq []) rfl (r := [.int .i64 (-1)]) kr (fun X' hM hC => ⟨(-1), hm, rfl⟩)
theorem C49_23 (k23 : S23) (v : ∀ (s_ : List ai), gS s_ -> VC49_23 s_ (fun r => r = aQ s_)) : S49_23 := by
 intro w X s_ a1 c1   hp h1 hA
 refine (W49_23 k23 w X s_ a1 c1   _ (v s_ hp) h1 hA).mono ?_
 rintro _ _ _ _ ⟨r, rfl, h⟩
 exact h
theorem W25_23 (k49_23 : S49_23) (w0) (X0) (s_ : List ai) (a1) (c1) (Q : Bool -> Prop) (hm : VC25_23 s_ Q) (h1 : RS aE w0 X0 a1 s_ c1) (hA : cH []) :
  Ret Try.prog 25 #[.slice a1 s_.length c1, .func (.func 23) #[] #[]] (pR []) w0 X0 (fun w X' v => ∃ r, Q r /\ v = .bool r) := by
 unfold VC25_23 at hm
 replace hm := hm (h1.sm kr)
 refine dI Try.func25 rfl (cy []) (fun id => 0) (args := [Sl a1 s_ c1, .f (.func 23) [] []]) (bxs := []) kr rfl a8.nil (dA (fun q hq => (hA.2 q.1 (List.mem_map.2 ⟨q, hq, rfl⟩)).1)) ?_
 intro a hS hO hM
 generalize (fun id : Nat => 0) = Z at hS
 replace h1 := h1.m0 hM
 refine rPb T hS [(0, Sl a1 s_ c1), (1, .f (.func 23) [] [])] fun a hS => ?_
 refine bb ?_
 refine oPb T hS 2 [(5, Sl a1 s_ c1), (6, .f (.func 23) [] [])] fun a hS => ?_
 obtain ⟨hq, hm⟩ := hm
 refine op1 (gH hS kr kr hb49 kr (k49_23 _ _ s_ a1 c1 hq h1 ⟨by decide, by decide⟩) ?_)
 intro v101 a w102 X103 hE hp hS
 replace hO := hO.m2 hE
 replace h1 := h1.m1 hE
 obtain ⟨r104, hr⟩ : ∃ r, aQ s_ = r := ⟨_, rfl⟩
 replace hm := hm r104 hr
 rw [hr] at hp
 clear hr
 subst hp
 refine ePb T hS [(4, B (decide (r104 ≥ 0)))] fun a hS => ?_
 refine aU ?_
 exact eA T hS hO (fun c h => bu kr h) (fun c h => bw (l := []) h) (bq []) rfl (r := [.bool (decide (r104 ≥ 0))]) kr (fun X' hM hC => ⟨(decide (r104 ≥ 0)), hm, rfl⟩)
theorem C25_23 (k49_23 : S49_23) (v : ∀ (s_ : List ai), gS s_ -> VC25_23 s_ (fun r => r = aN s_)) : S25_23 := by
 intro w X s_ a1 c1   hp h1 hA
 refine (W25_23 k49_23 w X s_ a1 c1   _ (v s_ hp) h1 hA).mono ?_
 rintro _ _ _ _ ⟨r, rfl, h⟩
 exact h
theorem W6 (k25_23 : S25_23) (k26 : S26) (k27 : S27) (w0) (X0) (h_ : ak) (a1) (c1) (a2) (c2) (Q : Int × Int -> Prop) (hm : VC6 h_ Q) (h1 : RS aE w0 X0 a1 h_.ae c1) (h2 : RS aK w0 X0 a2 h_.aj c2) :
  Ret Try.prog 6 #[.agg #[.slice a1 h_.ae.length c1, .slice a2 h_.aj.length c2]] aF w0 X0 (fun w X' v => ∃ r, Q r /\ v = .tuple #[.int .i64 r.1, .int .i64 r.2]) := by
 unfold VC6 at hm
 replace hm := hm (h1.sm kr)
 replace hm := hm (h2.sm kr)
 refine enter Try.func6 rfl (vals := [.agg #[.slice a1 h_.ae.length c1, .slice a2 h_.aj.length c2]]) kr ?_
 intro Z a hS hO hM
 replace h1 := h1.m0 hM
 replace h2 := h2.m0 hM
 refine rM T hS ⟨[(1, Pt 2 0)], [(2, (25, [Sl a1 h_.ae c1, Sl a2 h_.aj c2]))]⟩ fun Z a w166 X167 hS hE hr => ?_
 replace hO := hO.m2 hE
 replace h1 := h1.m1 hE
 replace h2 := h2.m1 hE
 clear hE hr
 refine rPb T hS [(1, Pt 2 0), (4, .f (.func 23) [] [])] fun a hS => ?_
 refine ba ?_
 refine bU (fun a w => ∃ (Z : Nat -> Nat) (X : Nat -> Nat) (y101 : Bool), VC6_J1 h_ Q y101 /\ St Try.f6.ntmps ⟨[(1, Pt 2 0), (25, B y101)], [(2, (25, [Sl a1 h_.ae c1, Sl a2 h_.aj c2]))]⟩ Z a w X /\ Old w0 X0 w X /\ RS aE w X a1 h_.ae c1 /\ RS aK w X a2 h_.aj c2) ?_ ?_
 ·refine region ?_
  refine oPb T hS 11 [(1, Pt 2 0), (4, .f (.func 23) [] []), (20, B ((decide ((lN h_.ae) < 1)) || (decide ((lN h_.ae) > 8))))] (sp := [14]) fun a hS => ?_
  rcases bft ((decide ((lN h_.ae) < 1)) || (decide ((lN h_.ae) > 8))) with hb | hb
  ·replace hS := hS.lit (t := 20) kr hb
   replace hm := hm.1 hb
   refine ePb T hS [(1, Pt 2 0), (25, B true)] fun a hS => ?_
   exact ⟨Z, _, true, hm, hS.sl _, hO, h1, h2⟩
  replace hS := hS.lit (t := 20) kr hb
  replace hm := hm.2 hb
  refine oPb T hS 3 [(1, Pt 2 0), (20, B false), (22, Sl a1 h_.ae c1), (23, .f (.func 23) [] [])] fun a hS => ?_
  obtain ⟨hq, hm⟩ := hm
  refine op1 (gH hS kr kr hb25 kr (k25_23 _ _ h_.ae a1 c1 hq h1 ⟨by decide, by decide⟩) ?_)
  intro v160 a w161 X162 hE hp hS
  replace hO := hO.m2 hE
  replace h1 := h1.m1 hE
  replace h2 := h2.m1 hE
  obtain ⟨r163, hr⟩ : ∃ r, aN h_.ae = r := ⟨_, rfl⟩
  replace hm := hm r163 hr
  rw [hr] at hp
  clear hr
  subst hp
  refine ePb T hS [(1, Pt 2 0), (25, B r163)] fun a hS => ?_
  exact ⟨Z, _, r163, hm, hS.sl _, hO, h1, h2⟩
 rintro a w165 ⟨Z, X164, y101, hm, hS, hO, h102, h103⟩
 unfold VC6_J1 at hm
 refine aG hS (b := y101) kr (fun hb => ?_) fun hb => ?_
 ·replace hm := hm.1 hb
  refine rP T hS ⟨[(2, I (-1)), (3, I 2)], []⟩ fun a hS => ?_
  refine aU ?_
  exact fin T hS hO (fun c => c) rfl (r := [.int .i64 (-1), .int .i64 2]) kr (fun X' hM hC => ⟨((-1), 2), hm, rfl⟩)
 replace hm := hm.2 hb
 refine aJ (ba ?_)
 refine bb ?_
 refine oPb T hS 1 [(1, Pt 2 0), (27, V (.agg #[.slice a1 h_.ae.length c1, .slice a2 h_.aj.length c2]))] fun a hS => ?_
 obtain ⟨hq, hm⟩ := hm
 refine op1 (call hS kr kr hb27 kr (fun _ _ => rfl) (k27 _ _ (⟨h_.ae, h_.aj⟩ : ak) a1 c1 a2 c2 hq h102 h103) ?_)
 intro v104 a w105 X106 hE hp hS
 replace hO := hO.m2 hE
 replace h102 := h102.m1 hE
 replace h103 := h103.m1 hE
 obtain ⟨a108, c109, hp, h110⟩ := hp
 obtain ⟨r107, hr⟩ : ∃ r, bK (⟨h_.ae, h_.aj⟩ : ak) = r := ⟨_, rfl⟩
 replace hm := hm r107 hr
 rw [hr] at hp h110
 clear hr
 subst hp
 replace hm := hm (h110.sm kr)
 refine op1 (call hS kr kr hb26 kr (fun _ _ => rfl) (k26 _ _ r107 a108 c109 h110) ?_)
 intro v111 a w112 X113 hE hp hS
 replace hO := hO.m2 hE
 replace h102 := h102.m1 hE
 replace h103 := h103.m1 hE
 replace h110 := h110.m1 hE
 obtain ⟨r114, hr⟩ : ∃ r, bB r107 = r := ⟨_, rfl⟩
 replace hm := hm r114 hr
 rw [hr] at hp
 clear hr
 subst hp
 refine ePb T hS [(1, Pt 2 0), (5, I r114.1), (6, I r114.2)] fun a hS => ?_
 refine rPb T hS [(1, Pt 2 0), (5, I r114.1), (6, I r114.2), (33, B (r114.2 != 0))] fun a hS => ?_
 refine aG hS (b := (r114.2 != 0)) kr (fun hb => ?_) fun hb => ?_
 ·replace hm := hm.1 hb
  refine rP T hS ⟨[(2, I r114.1), (3, I r114.2)], []⟩ fun a hS => ?_
  refine aU ?_
  exact fin T hS hO (fun c => c) rfl (r := [.int .i64 r114.1, .int .i64 r114.2]) kr (fun X' hM hC => ⟨(r114.1, r114.2), hm, rfl⟩)
 replace hm := hm.2 hb
 refine aJ ?_
 refine bb ?_
 refine op1 (jo kI tI false 1037 hS kr kr ?_)
 intro r115 a w116 X117 hE h118 hS
 replace hO := hO.m2 hE
 replace h102 := h102.m1 hE
 replace h103 := h103.m1 hE
 refine ePb T hS [(1, Pt 2 0), (7, V (.map (some r115)))] fun a hS => ?_
 refine bU (fun a w => ∃ Z X, VC6_J2 h_ Q /\ St Try.f6.ntmps ⟨[(1, Pt 2 0)], [(2, (25, [Sl a1 h_.ae c1, Sl a2 h_.aj c2]))]⟩ Z a w X /\ Old w0 X0 w X /\ RS aE w X a1 h_.ae c1 /\ RS aK w X a2 h_.aj c2) ?_ ?_
 ·refine rPb T hS [(1, Pt 2 0), (7, V (.map (some r115))), (38, Sl a2 h_.aj c2), (39, I (lN h_.aj)), (40, I 0)] fun a hS => ?_
  refine aO ?_
  obtain ⟨I1, μ1, hm0, hm⟩ := hm
  refine b8 (σ := (List (Int × Int)) × Int) (fun s a w => ∃ Z X, I1 s.1 s.2 /\ St Try.f6.ntmps ⟨[(1, Pt 2 0), (7, V (.map (some r115))), (38, Sl a2 h_.aj c2), (39, I (lN h_.aj)), (40, I s.2)], [(2, (25, [Sl a1 h_.ae c1, Sl a2 h_.aj c2]))]⟩ Z a w X /\ Old w0 X0 w X /\ OM kI tI false w X 1037 r115 s.1 /\ RS aK w X a2 h_.aj c2 /\ RS aE w X a1 h_.ae c1 /\ RS aK w X a2 h_.aj c2) (fun s => μ1 s.1 s.2) (⟨([] : List (Int × Int)), 0⟩) ?_ ?_
  ·exact ⟨Z, _, hm0, hS.sl _, hO, h118, h103, h102, h103⟩
  rintro ⟨y121, y124⟩ a w157 ⟨Z, X156, hI, hS, hO, h122, h123, h125, h126⟩
  replace hm := hm y121 y124 hI
  clear hI hm0
  refine rPb T hS [(1, Pt 2 0), (7, V (.map (some r115))), (38, Sl a2 h_.aj c2), (39, I (lN h_.aj)), (40, I y124), (41, B (decide (y124 < (lN h_.aj))))] fun a hS => ?_
  refine ba ?_
  refine aG hS (b := decide (y124 < (lN h_.aj))) kr (fun hb => ?_) fun hb => ?_
  ·replace hm := hm.1 hb
   refine aJ (ba ?_)
   refine aO ?_
   refine bb ?_
   refine oPb T hS 1 [(1, Pt 2 0), (7, V (.map (some r115))), (38, Sl a2 h_.aj c2), (39, I (lN h_.aj)), (40, I y124), (42, I y124)] fun a hS => ?_
   obtain ⟨hq, hm⟩ := hm
   refine op1 (index (e := 64) (k := .i64) T hS kr kr kr kr h123 kr kr hq.1 hq.2 ?_)
   intro A127 a h128 hS
   refine op1 (di T hS kr kr kr h128 kr kr ?_)
   intro v129 a hv hS
   subst hv
   refine eM T hS ⟨[(1, Pt 2 0), (7, V (.map (some r115))), (8, I y124), (9, Pt 10 0), (38, Sl a2 h_.aj c2), (39, I (lN h_.aj)), (40, I y124)], [(2, (25, [Sl a1 h_.ae c1, Sl a2 h_.aj c2])), (10, (64, [I ((gi h_.aj y124).ar), I (((gi h_.aj y124).aH).aY), I (((gi h_.aj y124).aH).ab), I (((gi h_.aj y124).aH).N)]))]⟩ fun Z a w154 X155 hS hE hr => ?_
   replace hO := hO.m2 hE
   replace h122 := h122.m2 hE
   replace h123 := h123.m1 hE
   replace h125 := h125.m1 hE
   replace h126 := h126.m1 hE
   clear hE hr
   refine ba ?_
   refine aO ?_
   refine rPb T hS [(1, Pt 2 0), (7, V (.map (some r115))), (8, I y124), (9, Pt 10 0), (38, Sl a2 h_.aj c2), (39, I (lN h_.aj)), (40, I y124), (45, B ((decide (((gi h_.aj y124).ar) < 0)) || (decide (((gi h_.aj y124).ar) ≥ (lN h_.ae)))))] (sp := [49]) fun a hS => ?_
   refine aG hS (b := ((decide (((gi h_.aj y124).ar) < 0)) || (decide (((gi h_.aj y124).ar) ≥ (lN h_.ae))))) kr (fun hb => ?_) fun hb => ?_
   ·replace hm := hm.1 hb
    refine rP T hS ⟨[(2, I y124), (3, I 2)], []⟩ fun a hS => ?_
    refine aU ?_
    exact fin T hS hO (fun c => c) rfl (r := [.int .i64 y124, .int .i64 2]) kr (fun X' hM hC => ⟨(y124, 2), hm, rfl⟩)
   replace hm := hm.2 hb
   refine bU (fun a w => ∃ (Z : Nat -> Nat) (X : Nat -> Nat) (y132 : Bool), VC6_J3 h_ Q I1 μ1 y121 y124 y132 /\ St Try.f6.ntmps ⟨[(1, Pt 2 0), (7, V (.map (some r115))), (8, I y124), (9, Pt 10 0), (38, Sl a2 h_.aj c2), (39, I (lN h_.aj)), (40, I y124), (58, B y132)], [(2, (25, [Sl a1 h_.ae c1, Sl a2 h_.aj c2])), (10, (64, [I ((gi h_.aj y124).ar), I (((gi h_.aj y124).aH).aY), I (((gi h_.aj y124).aH).ab), I (((gi h_.aj y124).aH).N)]))]⟩ Z a w X /\ Old w0 X0 w X /\ OM kI tI false w X 1037 r115 y121 /\ RS aK w X a2 h_.aj c2 /\ RS aE w X a1 h_.ae c1 /\ RS aK w X a2 h_.aj c2) ?_ ?_
   ·refine region ?_
    refine oPb T hS 5 [(1, Pt 2 0), (7, V (.map (some r115))), (8, I y124), (9, Pt 10 0), (38, Sl a2 h_.aj c2), (39, I (lN h_.aj)), (40, I y124), (63, B ((((gi h_.aj y124).aH).aY) == 2))] fun a hS => ?_
    rcases bft ((((gi h_.aj y124).aH).aY) == 2) with hb | hb
    ·replace hS := hS.lit (t := 63) kr hb
     replace hm := hm.1 hb
     refine oPb T hS 4 [(1, Pt 2 0), (7, V (.map (some r115))), (8, I y124), (9, Pt 10 0), (38, Sl a2 h_.aj c2), (39, I (lN h_.aj)), (40, I y124), (63, B true), (64, V (.map (some r115))), (67, I (((gi h_.aj y124).aH).ab))] fun a hS => ?_
     refine op1 (fM kI tI false (zv := .int .i64 0) (z := 0) (((gi h_.aj y124).aH).ab) hS kr kr kr kr Try.underlying71 Try.underlying3 kr rfl h122 ?_)
     intro v151 a hv hS
     replace hv : tI.R _ _ [v151] _ := hv
     cases hv
     refine ePb T hS [(1, Pt 2 0), (7, V (.map (some r115))), (8, I y124), (9, Pt 10 0), (38, Sl a2 h_.aj c2), (39, I (lN h_.aj)), (40, I y124), (58, B (((ay y121 (((gi h_.aj y124).aH).ab)).getD 0) != ((gi h_.aj y124).ar)))] fun a hS => ?_
     exact ⟨Z, _, (((ay y121 (((gi h_.aj y124).aH).ab)).getD 0) != ((gi h_.aj y124).ar)), hm, hS.sl _, hO, h122, h123, h125, h126⟩
    replace hS := hS.lit (t := 63) kr hb
    replace hm := hm.2 hb
    refine ePb T hS [(1, Pt 2 0), (7, V (.map (some r115))), (8, I y124), (9, Pt 10 0), (38, Sl a2 h_.aj c2), (39, I (lN h_.aj)), (40, I y124), (58, B false)] fun a hS => ?_
    exact ⟨Z, _, false, hm, hS.sl _, hO, h122, h123, h125, h126⟩
   rintro a w153 ⟨Z, X152, y132, hm, hS, hO, h130, h131, h133, h134⟩
   unfold VC6_J3 at hm
   refine aG hS (b := y132) kr (fun hb => ?_) fun hb => ?_
   ·replace hm := hm.1 hb
    refine rP T hS ⟨[(2, I y124), (3, I 32)], []⟩ fun a hS => ?_
    refine aU ?_
    exact fin T hS hO (fun c => c) rfl (r := [.int .i64 y124, .int .i64 32]) kr (fun X' hM hC => ⟨(y124, 32), hm, rfl⟩)
   replace hm := hm.2 hb
   refine bU (fun a w => ∃ (Z : Nat -> Nat) (X : Nat -> Nat) (y137 : Bool), VC6_J4 h_ Q I1 μ1 y121 y124 y137 /\ St Try.f6.ntmps ⟨[(1, Pt 2 0), (7, V (.map (some r115))), (8, I y124), (9, Pt 10 0), (38, Sl a2 h_.aj c2), (39, I (lN h_.aj)), (40, I y124), (74, B y137)], [(2, (25, [Sl a1 h_.ae c1, Sl a2 h_.aj c2])), (10, (64, [I ((gi h_.aj y124).ar), I (((gi h_.aj y124).aH).aY), I (((gi h_.aj y124).aH).ab), I (((gi h_.aj y124).aH).N)]))]⟩ Z a w X /\ Old w0 X0 w X /\ OM kI tI false w X 1037 r115 y121 /\ RS aK w X a2 h_.aj c2 /\ RS aE w X a1 h_.ae c1 /\ RS aK w X a2 h_.aj c2) ?_ ?_
   ·refine fj [2, 10] mixed hS ?_
    intro w142 X143 hS hE hD hH
    replace hO := hO.m2 hE
    replace h130 := h130.m2 hE
    replace h131 := h131.m1 hE
    replace h133 := h133.m1 hE
    replace h134 := h134.m1 hE
    refine tkb T [0, 1, 2, 3, 4] [2, 10] hS hH #[true, true, true, true, true, false, false, false, false, false, false, false, false, false, false, false, false, false] 13 [(1, Pt 2 0), (7, V (.map (some r115))), (8, I y124), (9, Pt 10 0), (38, Sl a2 h_.aj c2), (39, I (lN h_.aj)), (40, I y124), (79, B ((((gi h_.aj y124).aH).aY) == 1))] fun a hS => ?_
    rcases bft ((((gi h_.aj y124).aH).aY) == 1) with hb | hb
    ·replace hS := hS.lit (t := 79) kr hb
     replace hm := hm.1 hb
     refine tkb T [5, 8, 10, 6, 9, 11, 7] [2, 10] hS hH #[true, true, true, true, true, true, true, true, true, true, true, true, false, false, false, false, false, false] 6 [(1, Pt 2 0), (7, V (.map (some r115))), (8, I y124), (9, Pt 10 0), (38, Sl a2 h_.aj c2), (39, I (lN h_.aj)), (40, I y124), (79, B true), (82, I (((gi h_.aj y124).aH).N)), (84, Sl a1 h_.ae c1), (86, I ((gi h_.aj y124).ar))] fun a hS => ?_
     obtain ⟨hq, hm⟩ := hm
     refine cD (e := 42) (k := .i64) T 12 hS kr kr kr (by rfl) kr hH kr kr h133 kr kr hq.1 hq.2 ?_
     intro A144 a h145 hS
     have h145b := h145.here
     refine db (off := 1) (fsz := 1) (ft := 3) (TF := tI) (y := (gi h_.ae ((gi h_.aj y124).ar)).av) 13 T hS kr kr kr (by rfl) kr hH kr h145 kr kr kr (fun cs h => hX h) ?_
     intro A146 a h147 hbl hS
     have h147b := h145b
     rw [← hbl] at h147b
     clear hbl
     refine dB T 14 hS kr kr kr (by rfl) kr hH kr h147 h147b rfl kr ?_
     intro v148 a hv hS
     cases hv
     refine tkb T [15, 16, 17] [2, 10] hS hH (tts 18) 0 [(1, Pt 2 0), (7, V (.map (some r115))), (8, I y124), (9, Pt 10 0), (38, Sl a2 h_.aj c2), (39, I (lN h_.aj)), (40, I y124), (74, B (decide ((((gi h_.aj y124).aH).N) ≥ ((gi h_.ae ((gi h_.aj y124).ar)).av))))] fun a hS => ?_
     refine aM kr ?_
     replace hS := hS.slb [(1, Pt 2 0), (7, V (.map (some r115))), (8, I y124), (9, Pt 10 0), (38, Sl a2 h_.aj c2), (39, I (lN h_.aj)), (40, I y124), (74, B (decide ((((gi h_.aj y124).aH).N) ≥ ((gi h_.ae ((gi h_.aj y124).ar)).av))))]
     exact ⟨Z, _, decide ((((gi h_.aj y124).aH).N) ≥ ((gi h_.ae ((gi h_.aj y124).ar)).av)), hm, hS.sl _, hO, h130, h131, h133, h134⟩
    replace hS := hS.lit (t := 79) kr hb
    replace hm := hm.2 hb
    refine tkb T [5, 8, 10, 6, 9, 11, 7, 12, 13, 14, 15, 16, 17] [2, 10] hS hH (tts 18) 0 [(1, Pt 2 0), (7, V (.map (some r115))), (8, I y124), (9, Pt 10 0), (38, Sl a2 h_.aj c2), (39, I (lN h_.aj)), (40, I y124), (74, B false)] fun a hS => ?_
    refine aM kr ?_
    replace hS := hS.slb [(1, Pt 2 0), (7, V (.map (some r115))), (8, I y124), (9, Pt 10 0), (38, Sl a2 h_.aj c2), (39, I (lN h_.aj)), (40, I y124), (74, B false)]
    exact ⟨Z, _, false, hm, hS.sl _, hO, h130, h131, h133, h134⟩
   rintro a w150 ⟨Z, X149, y137, hm, hS, hO, h135, h136, h138, h139⟩
   unfold VC6_J4 at hm
   refine aG hS (b := y137) kr (fun hb => ?_) fun hb => ?_
   ·replace hm := hm.1 hb
    refine rP T hS ⟨[(2, I y124), (3, I 31)], []⟩ fun a hS => ?_
    refine aU ?_
    exact fin T hS hO (fun c => c) rfl (r := [.int .i64 y124, .int .i64 31]) kr (fun X' hM hC => ⟨(y124, 31), hm, rfl⟩)
   replace hm := hm.2 hb
   refine aJ ?_
   refine region ?_
   refine oP T hS 6 ⟨[(1, Pt 2 0), (7, V (.map (some r115))), (38, Sl a2 h_.aj c2), (39, I (lN h_.aj)), (40, I y124), (93, V (.map (some r115))), (96, I (((gi h_.aj y124).aH).ab)), (98, I ((gi h_.aj y124).ar))], [(2, (25, [Sl a1 h_.ae c1, Sl a2 h_.aj c2]))]⟩ fun a hS => ?_
   refine op1 (lA kI tI false (v := I ((gi h_.aj y124).ar)) (u := (gi h_.aj y124).ar) (((gi h_.aj y124).aH).ab) hS kr kr kr kr Try.underlying71 Try.underlying3 kr h135 rfl ?_)
   intro a w140 hE h141 hS
   clear h135
   replace hO := hO.m2 hE
   replace h136 := h136.m1 hE
   replace h138 := h138.m1 hE
   replace h139 := h139.m1 hE
   refine eO ?_
   refine region (ePb T hS [(1, Pt 2 0), (7, V (.map (some r115))), (38, Sl a2 h_.aj c2), (39, I (lN h_.aj)), (40, I (wR (y124 + 1)))] fun a hS => ?_)
   exact ⟨⟨cg y121 (((gi h_.aj y124).aH).ab) ((gi h_.aj y124).ar), wR (y124 + 1)⟩, ⟨Z, _, hm.1, hS.sl _, hO, h141, h136, h138, h139⟩, hm.2⟩
  replace hm := hm.2 hb
  refine b0 (by rfl) ?_
  exact ⟨Z, _, hm, hS.sl _, hO, h125, h126⟩
 rintro a w159 ⟨Z, X158, hm, hS, hO, h119, h120⟩
 unfold VC6_J2 at hm
 refine rP T hS ⟨[(2, I (lN h_.aj)), (3, I 0)], []⟩ fun a hS => ?_
 refine aU ?_
 exact fin T hS hO (fun c => c) rfl (r := [.int .i64 (lN h_.aj), .int .i64 0]) kr (fun X' hM hC => ⟨((lN h_.aj), 0), hm, rfl⟩)
theorem C6 (k25_23 : S25_23) (k26 : S26) (k27 : S27) (v : ∀ (h_ : ak), dS h_ -> VC6 h_ (fun r => r = aV h_)) : S6 := by
 intro w X h_ a1 c1 a2 c2   hp h1 h2
 refine (W6 k25_23 k26 k27 w X h_ a1 c1 a2 c2   _ (v h_ hp) h1 h2).mono ?_
 rintro _ _ _ _ ⟨r, rfl, h⟩
 exact h
theorem W30 (w0) (X0) (l_ : List aD) (a1) (c1) (Q : (List al) -> Prop) (hm : VC30 l_ Q) (h1 : RS bj w0 X0 a1 l_ c1) :
  Ret Try.prog 30 #[.slice a1 l_.length c1] aF w0 X0 (fun w X' v => ∃ r, Q r /\ ∃ ra1 rc1, v = .slice ra1 r.length rc1 /\ RS az w X' ra1 r rc1) := by
 unfold VC30 at hm
 replace hm := hm (h1.sm kr)
 refine enter Try.func30 rfl (vals := [.slice a1 l_.length c1]) kr ?_
 intro Z a hS hO hM
 replace h1 := h1.m0 hM
 refine rPb T hS [(0, Sl a1 l_ c1)] fun a hS => ?_
 refine rPb T hS [(0, Sl a1 l_ c1), (3, V (.slice none 0 0))] fun a hS => ?_
 refine bU (fun a w => ∃ (Z : Nat -> Nat) (X : Nat -> Nat) (y101 : List al) (a102 : Option Addr) (c103 : Nat), VC30_J1 Q y101 /\ St Try.f30.ntmps ⟨[(3, Sl a102 y101 c103)], []⟩ Z a w X /\ Old w0 X0 w X /\ OS az 62 w X 1003 a102 y101 c103) ?_ ?_
 ·refine rPb T hS [(0, Sl a1 l_ c1), (3, V (.slice none 0 0)), (4, I 0)] fun a hS => ?_
  refine aO ?_
  obtain ⟨I1, μ1, hm0, hm⟩ := hm
  refine b8 (σ := (List al) × Int) (fun s a w => ∃ Z X a109 c110, I1 s.1 s.2 /\ St Try.f30.ntmps ⟨[(0, Sl a1 l_ c1), (3, Sl a109 s.1 c110), (4, I s.2)], []⟩ Z a w X /\ Old w0 X0 w X /\ RS bj w X a1 l_ c1 /\ OS az 62 w X 1003 a109 s.1 c110) (fun s => μ1 s.1 s.2) (⟨[], 0⟩) ?_ ?_
  ·exact ⟨Z, _, none, 0, hm0, hS.sl _, hO, h1, (OS.nil _ _ _ _ _)⟩
  rintro ⟨y108, y112⟩ a w128 ⟨Z, X127, a109, c110, hI, hS, hO, h107, h111⟩
  replace hm := hm y108 y112 hI
  clear hI hm0
  refine ba ?_
  refine rPb T hS [(0, Sl a1 l_ c1), (3, Sl a109 y108 c110), (4, I y112), (8, B (decide (y112 < (lN l_))))] fun a hS => ?_
  refine aG hS (b := decide (y112 < (lN l_))) kr (fun hb => ?_) fun hb => ?_
  ·replace hm := hm.1 hb
   refine aJ (ba ?_)
   refine aO ?_
   refine region ?_
   refine oPb T hS 3 [(0, Sl a1 l_ c1), (3, Sl a109 y108 c110), (4, I y112), (11, Sl a109 y108 c110), (12, Sl a1 l_ c1), (13, I y112)] fun a hS => ?_
   obtain ⟨hq, hm⟩ := hm
   refine op1 (index (e := 75) (k := .i64) T hS kr kr kr kr h107 kr kr hq.1 hq.2 ?_)
   intro A113 a h114 hS
   refine op1 (fa (off := 1) (fsz := 3) (ft := 62) (TF := az) (y := (gi l_ y112).aH) T hS kr kr kr h114 kr kr kr (fun cs h => fb h) ?_)
   intro A115 a h116 hS
   refine op1 (di T hS kr kr kr h116 kr kr ?_)
   intro v117 a hv hS
   subst hv
   refine op1 (lit (E := 62) (col := 0) (T := az) (vals := [.agg #[.int .i64 (((gi l_ y112).aH).aY), .int .i64 (((gi l_ y112).aH).ab), .int .i64 (((gi l_ y112).aH).N)]]) (ys := [(gi l_ y112).aH]) T hS kr kr kr kr (by exact ⟨rfl, trivial⟩) rfl kr kr kr kr ?_)
   intro b118 a w119 X120 hE h121 hN hS
   clear hN
   replace hO := hO.m2 hE
   replace h107 := h107.m1 hE
   replace h111 := h111.m2 hE
   replace h114 := h114.m1 hE
   replace h116 := h116.m1 hE
   replace h121 := h121.rs0
   obtain ⟨hq, hm⟩ := hm
   obtain ⟨news, hN⟩ := h121.src
   refine op1 (append (E := 62) (T := az) (col := 1003) (xs := y108) T hS kr kr kr kr h111 hN kr kr kr kr hq ?_)
   intro a125 c126 a w122 X123 hE h124 hS
   clear hq hN
   clear h111
   replace hO := hO.m2 hE
   replace h107 := h107.m1 hE
   replace h114 := h114.m1 hE
   replace h116 := h116.m1 hE
   replace h121 := h121.m1 hE
   refine ePb T hS [(0, Sl a1 l_ c1), (3, Sl a125 (y108 ++ [(gi l_ y112).aH]) c126), (4, I y112)] fun a hS => ?_
   refine region (ePb T hS [(0, Sl a1 l_ c1), (3, Sl a125 (y108 ++ [(gi l_ y112).aH]) c126), (4, I (wR (y112 + 1)))] fun a hS => ?_)
   exact ⟨⟨y108 ++ [(gi l_ y112).aH], wR (y112 + 1)⟩, ⟨Z, _, a125, c126, hm.1, hS.sl _, hO, h107, h124⟩, hm.2⟩
  replace hm := hm.2 hb
  refine b0 (by rfl) ?_
  exact ⟨Z, _, y108, a109, c110, hm, hS.sl _, hO, h111⟩
 rintro a w130 ⟨Z, X129, y101, a102, c103, hm, hS, hO, h104⟩
 unfold VC30_J1 at hm
 refine rPb T hS [(2, Sl a102 y101 c103)] fun a hS => ?_
 refine aU ?_
 obtain ⟨X105, hE, hF⟩ := h104.freeze (by decide)
 replace hS := hS.ev hE (bW kr)
 replace hO := hO.m2 hE
 have h106 := hF; clear hE hF
 exact fin T hS hO (fun c => c) rfl (r := [.slice a102 y101.length c103]) kr (fun X' hM hC => ⟨y101, hm, a102, c103, rfl, h106.m0 hM⟩)
theorem C30 (v : ∀ (l_ : List aD), kJ l_ -> VC30 l_ (fun r => r = bS l_)) : S30 := by
 intro w X l_ a1 c1   hp h1
 refine (W30 w X l_ a1 c1   _ (v l_ hp) h1).mono ?_
 rintro _ _ _ _ ⟨r, rfl, h⟩
 exact h
theorem W31 (w0) (X0) (l_ : List aD) (at_ : Int) (a1) (c1) (Q : Int -> Prop) (hm : VC31 l_ at_ Q) (h1 : RS bj w0 X0 a1 l_ c1) :
  Ret Try.prog 31 #[.slice a1 l_.length c1, .int .i64 at_] aF w0 X0 (fun w X' v => ∃ r, Q r /\ v = .int .i64 r) := by
 unfold VC31 at hm
 replace hm := hm (h1.sm kr)
 refine enter Try.func31 rfl (vals := [.slice a1 l_.length c1, .int .i64 at_]) kr ?_
 intro Z a hS hO hM
 replace h1 := h1.m0 hM
 refine rPb T hS [(0, Sl a1 l_ c1), (1, I at_)] fun a hS => ?_
 refine bU (fun a w => ∃ Z X, VC31_J1 Q /\ St Try.f31.ntmps ⟨[], []⟩ Z a w X /\ Old w0 X0 w X) ?_ ?_
 ·refine rPb T hS [(0, Sl a1 l_ c1), (1, I at_), (5, I (wR (at_ - 1)))] fun a hS => ?_
  refine aO ?_
  obtain ⟨I1, μ1, hm0, hm⟩ := hm
  refine b8 (σ := Int) (fun s a w => ∃ Z X, I1 s /\ St Try.f31.ntmps ⟨[(0, Sl a1 l_ c1), (1, I at_), (5, I s)], []⟩ Z a w X /\ Old w0 X0 w X /\ RS bj w X a1 l_ c1) (fun s => μ1 s) (wR (at_ - 1)) ?_ ?_
  ·exact ⟨Z, _, hm0, hS.sl _, hO, h1⟩
  rintro y102 a w125 ⟨Z, X124, hI, hS, hO, h101⟩
  replace hm := hm y102 hI
  clear hI hm0
  refine ba ?_
  refine rPb T hS [(0, Sl a1 l_ c1), (1, I at_), (5, I y102), (9, B (decide (y102 ≥ 0)))] fun a hS => ?_
  refine aG hS (b := decide (y102 ≥ 0)) kr (fun hb => ?_) fun hb => ?_
  ·replace hm := hm.1 hb
   refine aJ (ba ?_)
   refine aO ?_
   refine ct [] mixed hS ?_
   intro w103 X104 hS hE hD hH
   replace hO := hO.m2 hE
   replace h101 := h101.m1 hE
   refine tkb T [0, 1, 6, 7] [] hS hH #[true, true, false, false, false, false, true, true, false, false, false, false, false] 9 [(0, Sl a1 l_ c1), (1, I at_), (5, I y102), (12, Sl a1 l_ c1), (13, I y102), (18, Sl a1 l_ c1), (19, I at_)] fun a hS => ?_
   obtain ⟨hq, hm⟩ := hm
   refine cD (e := 75) (k := .i64) T 2 hS kr kr kr (by rfl) kr hH kr kr h101 kr kr hq.1 hq.2 ?_
   intro A105 a h106 hS
   have h106b := h106.here
   refine db (off := 1) (fsz := 3) (ft := 62) (TF := az) (y := (gi l_ y102).aH) 3 T hS kr kr kr (by rfl) kr hH kr h106 kr kr kr (fun cs h => fb h) ?_
   intro A107 a h108 hbl hS
   have h108b := h106b
   rw [← hbl] at h108b
   clear hbl
   refine db (off := 1) (fsz := 1) (ft := 3) (TF := tI) (y := ((gi l_ y102).aH).ab) 4 T hS kr kr kr (by rfl) kr hH kr h108 kr kr kr (fun cs h => eI h) ?_
   intro A109 a h110 hbl hS
   have h110b := h108b
   rw [← hbl] at h110b
   clear hbl
   refine dB T 5 hS kr kr kr (by rfl) kr hH kr h110 h110b rfl kr ?_
   intro v111 a hv hS
   cases hv
   obtain ⟨hq, hm⟩ := hm
   refine cD (e := 75) (k := .i64) T 8 hS kr kr kr (by rfl) kr hH kr kr h101 kr kr hq.1 hq.2 ?_
   intro A112 a h113 hS
   have h113b := h113.here
   refine db (off := 1) (fsz := 3) (ft := 62) (TF := az) (y := (gi l_ at_).aH) 9 T hS kr kr kr (by rfl) kr hH kr h113 kr kr kr (fun cs h => fb h) ?_
   intro A114 a h115 hbl hS
   have h115b := h113b
   rw [← hbl] at h115b
   clear hbl
   refine db (off := 1) (fsz := 1) (ft := 3) (TF := tI) (y := ((gi l_ at_).aH).ab) 10 T hS kr kr kr (by rfl) kr hH kr h115 kr kr kr (fun cs h => eI h) ?_
   intro A116 a h117 hbl hS
   have h117b := h115b
   rw [← hbl] at h117b
   clear hbl
   refine dB T 11 hS kr kr kr (by rfl) kr hH kr h117 h117b rfl kr ?_
   intro v118 a hv hS
   cases hv
   refine tkb T [12] [] hS hH (tts 13) 0 [(0, Sl a1 l_ c1), (1, I at_), (5, I y102), (24, B ((((gi l_ y102).aH).ab) == (((gi l_ at_).aH).ab)))] fun a hS => ?_
   refine aM kr ?_
   replace hS := hS.slb [(0, Sl a1 l_ c1), (1, I at_), (5, I y102), (24, B ((((gi l_ y102).aH).ab) == (((gi l_ at_).aH).ab)))]
   refine aG hS (b := ((((gi l_ y102).aH).ab) == (((gi l_ at_).aH).ab))) kr (fun hb => ?_) fun hb => ?_
   ·replace hm := hm.1 hb
    refine bb ?_
    refine oPb T hS 2 [(25, Sl a1 l_ c1), (26, I y102)] fun a hS => ?_
    obtain ⟨hq, hm⟩ := hm
    refine op1 (index (e := 75) (k := .i64) T hS kr kr kr kr h101 kr kr hq.1 hq.2 ?_)
    intro A119 a h120 hS
    refine op1 (fa (off := 0) (fsz := 1) (ft := 3) (TF := tI) (y := (gi l_ y102).ar) T hS kr kr kr h120 kr kr kr (fun cs h => fT h) ?_)
    intro A121 a h122 hS
    refine op1 (ec T hS kr kr kr h122 rfl kr ?_)
    intro v123 a hv hS
    cases hv
    refine ePb T hS [(4, I ((gi l_ y102).ar))] fun a hS => ?_
    refine aU ?_
    exact fin T hS hO (fun c => c) rfl (r := [.int .i64 ((gi l_ y102).ar)]) kr (fun X' hM hC => ⟨((gi l_ y102).ar), hm, rfl⟩)
   replace hm := hm.2 hb
   refine aJ ?_
   refine region (ePb T hS [(0, Sl a1 l_ c1), (1, I at_), (5, I (wR (y102 - 1)))] fun a hS => ?_)
   exact ⟨wR (y102 - 1), ⟨Z, _, hm.1, hS.sl _, hO, h101⟩, hm.2⟩
  replace hm := hm.2 hb
  refine b0 (by rfl) ?_
  exact ⟨Z, _, hm, hS.sl _, hO⟩
 rintro a w127 ⟨Z, X126, hm, hS, hO⟩
 unfold VC31_J1 at hm
 refine rPb T hS [(4, I (-1))] fun a hS => ?_
 refine aU ?_
 exact fin T hS hO (fun c => c) rfl (r := [.int .i64 (-1)]) kr (fun X' hM hC => ⟨(-1), hm, rfl⟩)
theorem C31 (v : ∀ (l_ : List aD) (at_ : Int), lu l_ at_ -> VC31 l_ at_ (fun r => r = dD l_ at_)) : S31 := by
 intro w X l_ at_ a1 c1   hp h1
 refine (W31 w X l_ at_ a1 c1   _ (v l_ at_ hp) h1).mono ?_
 rintro _ _ _ _ ⟨r, rfl, h⟩
 exact h
theorem W7 (k28 : S28) (k29 : S29) (k30 : S30) (k31 : S31) (w0) (X0) (objects : List ai) (l_ : List aD) (a1) (c1) (a2) (c2) (Q : Int × Int -> Prop) (hm : VC7 objects l_ Q) (h1 : RS aE w0 X0 a1 objects c1) (h2 : RS bj w0 X0 a2 l_ c2) :
  Ret Try.prog 7 #[.slice a1 objects.length c1, .slice a2 l_.length c2] aF w0 X0 (fun w X' v => ∃ r, Q r /\ v = .tuple #[.int .i64 r.1, .int .i64 r.2]) := by
 unfold VC7 at hm
 replace hm := hm (h1.sm kr)
 replace hm := hm (h2.sm kr)
 refine enter Try.func7 rfl (vals := [.slice a1 objects.length c1, .slice a2 l_.length c2]) kr ?_
 intro Z a hS hO hM
 replace h1 := h1.m0 hM
 replace h2 := h2.m0 hM
 refine rPb T hS [(0, Sl a1 objects c1), (1, Sl a2 l_ c2)] fun a hS => ?_
 refine ba ?_
 refine rPb T hS [(0, Sl a1 objects c1), (1, Sl a2 l_ c2), (20, B ((decide ((lN objects) < 1)) || (decide ((lN objects) > 8))))] (sp := [16]) fun a hS => ?_
 refine aG hS (b := ((decide ((lN objects) < 1)) || (decide ((lN objects) > 8)))) kr (fun hb => ?_) fun hb => ?_
 ·replace hm := hm.1 hb
  refine rPb T hS [(4, I (-1)), (5, I 2)] fun a hS => ?_
  refine aU ?_
  exact fin T hS hO (fun c => c) rfl (r := [.int .i64 (-1), .int .i64 2]) kr (fun X' hM hC => ⟨((-1), 2), hm, rfl⟩)
 replace hm := hm.2 hb
 refine aJ ?_
 refine bU (fun a w => ∃ Z X, VC7_J1 objects l_ Q /\ St Try.f7.ntmps ⟨[(0, Sl a1 objects c1), (1, Sl a2 l_ c2)], []⟩ Z a w X /\ Old w0 X0 w X /\ RS aE w X a1 objects c1 /\ RS bj w X a2 l_ c2) ?_ ?_
 ·refine rPb T hS [(0, Sl a1 objects c1), (1, Sl a2 l_ c2), (6, I 0)] fun a hS => ?_
  refine aO ?_
  obtain ⟨I2, μ2, hm0, hm⟩ := hm
  refine b8 (σ := Int) (fun s a w => ∃ Z X, I2 s /\ St Try.f7.ntmps ⟨[(0, Sl a1 objects c1), (1, Sl a2 l_ c2), (6, I s)], []⟩ Z a w X /\ Old w0 X0 w X /\ RS aE w X a1 objects c1 /\ RS bj w X a2 l_ c2) (fun s => μ2 s) (0) ?_ ?_
  ·exact ⟨Z, _, hm0, hS.sl _, hO, h1, h2⟩
  rintro y152 a w164 ⟨Z, X163, hI, hS, hO, h150, h151⟩
  replace hm := hm y152 hI
  clear hI hm0
  refine ba ?_
  refine rPb T hS [(0, Sl a1 objects c1), (1, Sl a2 l_ c2), (6, I y152), (24, B (decide (y152 < (lN objects))))] fun a hS => ?_
  refine aG hS (b := decide (y152 < (lN objects))) kr (fun hb => ?_) fun hb => ?_
  ·replace hm := hm.1 hb
   refine aJ (ba ?_)
   refine aO ?_
   refine bb ?_
   refine oPb T hS 2 [(0, Sl a1 objects c1), (1, Sl a2 l_ c2), (6, I y152), (28, Sl a1 objects c1), (29, I y152)] fun a hS => ?_
   obtain ⟨hq, hm⟩ := hm
   refine op1 (index (e := 42) (k := .i64) T hS kr kr kr kr h150 kr kr hq.1 hq.2 ?_)
   intro A153 a h154 hS
   refine op1 (di T hS kr kr kr h154 kr kr ?_)
   intro v155 a hv hS
   obtain ⟨a156, c157, hv, h158⟩ := hv
   subst hv
   replace hm := hm (h158.sm kr)
   refine op1 (call hS kr kr hb28 kr (fun _ _ => rfl) (k28 _ _ (gi objects y152) a156 c157 h158) ?_)
   intro v159 a w160 X161 hE hp hS
   replace hO := hO.m2 hE
   replace h150 := h150.m1 hE
   replace h151 := h151.m1 hE
   replace h154 := h154.m1 hE
   replace h158 := h158.m1 hE
   obtain ⟨r162, hr⟩ : ∃ r, b5 (gi objects y152) = r := ⟨_, rfl⟩
   replace hm := hm r162 hr
   rw [hr] at hp
   clear hr
   subst hp
   refine ePb T hS [(0, Sl a1 objects c1), (1, Sl a2 l_ c2), (6, I y152), (8, I r162.2)] fun a hS => ?_
   refine rPb T hS [(0, Sl a1 objects c1), (1, Sl a2 l_ c2), (6, I y152), (36, B (r162.2 != 0))] fun a hS => ?_
   refine aG hS (b := (r162.2 != 0)) kr (fun hb => ?_) fun hb => ?_
   ·replace hm := hm.1 hb
    refine rPb T hS [(4, I (-1)), (5, I 2)] fun a hS => ?_
    refine aU ?_
    exact fin T hS hO (fun c => c) rfl (r := [.int .i64 (-1), .int .i64 2]) kr (fun X' hM hC => ⟨((-1), 2), hm, rfl⟩)
   replace hm := hm.2 hb
   refine aJ ?_
   refine region (ePb T hS [(0, Sl a1 objects c1), (1, Sl a2 l_ c2), (6, I (wR (y152 + 1)))] fun a hS => ?_)
   exact ⟨wR (y152 + 1), ⟨Z, _, hm.1, hS.sl _, hO, h150, h151⟩, hm.2⟩
  replace hm := hm.2 hb
  refine b0 (by rfl) ?_
  exact ⟨Z, _, hm, hS.sl _, hO, h150, h151⟩
 rintro a w166 ⟨Z, X165, hm, hS, hO, h101, h102⟩
 unfold VC7_J1 at hm
 refine bb ?_
 refine oPb T hS 1 [(0, Sl a1 objects c1), (1, Sl a2 l_ c2), (38, Sl a2 l_ c2)] fun a hS => ?_
 obtain ⟨hq, hm⟩ := hm
 refine op1 (call hS kr kr hb30 kr (fun _ _ => rfl) (k30 _ _ l_ a2 c2 hq h102) ?_)
 intro v103 a w104 X105 hE hp hS
 replace hO := hO.m2 hE
 replace h101 := h101.m1 hE
 replace h102 := h102.m1 hE
 obtain ⟨a107, c108, hp, h109⟩ := hp
 obtain ⟨r106, hr⟩ : ∃ r, bS l_ = r := ⟨_, rfl⟩
 replace hm := hm r106 hr
 rw [hr] at hp h109
 clear hr
 subst hp
 replace hm := hm (h109.sm kr)
 refine op1 (call hS kr kr hb29 kr (fun _ _ => rfl) (k29 _ _ r106 a107 c108 h109) ?_)
 intro v110 a w111 X112 hE hp hS
 replace hO := hO.m2 hE
 replace h101 := h101.m1 hE
 replace h102 := h102.m1 hE
 replace h109 := h109.m1 hE
 obtain ⟨r113, hr⟩ : ∃ r, dg r106 = r := ⟨_, rfl⟩
 replace hm := hm r113 hr
 rw [hr] at hp
 clear hr
 subst hp
 refine ePb T hS [(0, Sl a1 objects c1), (1, Sl a2 l_ c2), (9, I r113.1), (10, I r113.2)] fun a hS => ?_
 refine ba ?_
 refine rPb T hS [(0, Sl a1 objects c1), (1, Sl a2 l_ c2), (9, I r113.1), (10, I r113.2), (44, B (r113.2 != 0))] fun a hS => ?_
 refine aG hS (b := (r113.2 != 0)) kr (fun hb => ?_) fun hb => ?_
 ·replace hm := hm.1 hb
  refine rPb T hS [(4, I r113.1), (5, I r113.2)] fun a hS => ?_
  refine aU ?_
  exact fin T hS hO (fun c => c) rfl (r := [.int .i64 r113.1, .int .i64 r113.2]) kr (fun X' hM hC => ⟨(r113.1, r113.2), hm, rfl⟩)
 replace hm := hm.2 hb
 refine aJ ?_
 refine bU (fun a w => ∃ Z X, VC7_J2 l_ Q /\ St Try.f7.ntmps ⟨[(1, Sl a2 l_ c2)], []⟩ Z a w X /\ Old w0 X0 w X /\ RS bj w X a2 l_ c2) ?_ ?_
 ·refine rPb T hS [(0, Sl a1 objects c1), (1, Sl a2 l_ c2), (11, I 0)] fun a hS => ?_
  refine aO ?_
  obtain ⟨I1, μ1, hm0, hm⟩ := hm
  refine b8 (σ := Int) (fun s a w => ∃ Z X, I1 s /\ St Try.f7.ntmps ⟨[(0, Sl a1 objects c1), (1, Sl a2 l_ c2), (11, I s)], []⟩ Z a w X /\ Old w0 X0 w X /\ RS aE w X a1 objects c1 /\ RS bj w X a2 l_ c2) (fun s => μ1 s) (0) ?_ ?_
  ·exact ⟨Z, _, hm0, hS.sl _, hO, h101, h102⟩
  rintro y117 a w147 ⟨Z, X146, hI, hS, hO, h115, h116⟩
  replace hm := hm y117 hI
  clear hI hm0
  refine ba ?_
  refine rPb T hS [(0, Sl a1 objects c1), (1, Sl a2 l_ c2), (11, I y117), (50, B (decide (y117 < (lN l_))))] fun a hS => ?_
  refine aG hS (b := decide (y117 < (lN l_))) kr (fun hb => ?_) fun hb => ?_
  ·replace hm := hm.1 hb
   refine aJ (ba ?_)
   refine aO ?_
   refine bb ?_
   refine oPb T hS 2 [(0, Sl a1 objects c1), (1, Sl a2 l_ c2), (11, I y117), (53, Sl a2 l_ c2), (54, I y117)] fun a hS => ?_
   obtain ⟨hq, hm⟩ := hm
   refine op1 (index (e := 75) (k := .i64) T hS kr kr kr kr h116 kr kr hq.1 hq.2 ?_)
   intro A118 a h119 hS
   refine op1 (di T hS kr kr kr h119 kr kr ?_)
   intro v120 a hv hS
   subst hv
   refine eM T hS ⟨[(0, Sl a1 objects c1), (1, Sl a2 l_ c2), (11, I y117), (12, Pt 13 0)], [(13, (75, [I ((gi l_ y117).ar), I (((gi l_ y117).aH).aY), I (((gi l_ y117).aH).ab), I (((gi l_ y117).aH).N)]))]⟩ fun Z a w144 X145 hS hE hr => ?_
   replace hO := hO.m2 hE
   replace h115 := h115.m1 hE
   replace h116 := h116.m1 hE
   clear hE hr
   refine ba ?_
   refine rPb T hS [(0, Sl a1 objects c1), (1, Sl a2 l_ c2), (11, I y117), (12, Pt 13 0), (66, B ((decide (((gi l_ y117).ar) < 0)) || (decide (((gi l_ y117).ar) ≥ (lN objects)))))] (sp := [60]) fun a hS => ?_
   refine aG hS (b := ((decide (((gi l_ y117).ar) < 0)) || (decide (((gi l_ y117).ar) ≥ (lN objects))))) kr (fun hb => ?_) fun hb => ?_
   ·replace hm := hm.1 hb
    refine rP T hS ⟨[(4, I y117), (5, I 2)], []⟩ fun a hS => ?_
    refine aU ?_
    exact fin T hS hO (fun c => c) rfl (r := [.int .i64 y117, .int .i64 2]) kr (fun X' hM hC => ⟨(y117, 2), hm, rfl⟩)
   replace hm := hm.2 hb
   refine aJ (ba ?_)
   refine bU (fun a w => ∃ (Z : Nat -> Nat) (X : Nat -> Nat) (y123 : Bool), VC7_J3 objects l_ Q I1 μ1 y117 y123 /\ St Try.f7.ntmps ⟨[(0, Sl a1 objects c1), (1, Sl a2 l_ c2), (11, I y117), (12, Pt 13 0), (79, B y123)], [(13, (75, [I ((gi l_ y117).ar), I (((gi l_ y117).aH).aY), I (((gi l_ y117).aH).ab), I (((gi l_ y117).aH).N)]))]⟩ Z a w X /\ Old w0 X0 w X /\ RS aE w X a1 objects c1 /\ RS bj w X a2 l_ c2) ?_ ?_
   ·refine fj [13] mixed hS ?_
    intro w136 X137 hS hE hD hH
    replace hO := hO.m2 hE
    replace h115 := h115.m1 hE
    replace h116 := h116.m1 hE
    refine tkb T [0, 1, 2, 3, 4] [13] hS hH #[true, true, true, true, true, false, false, false, false, false, false, false] 7 [(0, Sl a1 objects c1), (1, Sl a2 l_ c2), (11, I y117), (12, Pt 13 0), (72, B ((((gi l_ y117).aH).aY) == 2))] fun a hS => ?_
    rcases bft ((((gi l_ y117).aH).aY) == 2) with hb | hb
    ·replace hS := hS.lit (t := 72) kr hb
     replace hm := hm.1 hb
     refine tkb T [5, 6, 8, 9] [13] hS hH #[true, true, true, true, true, true, true, false, true, true, false, false] 3 [(0, Sl a1 objects c1), (1, Sl a2 l_ c2), (11, I y117), (12, Pt 13 0), (72, B true), (73, Sl a2 l_ c2), (74, I y117), (77, I ((gi l_ y117).ar))] fun a hS => ?_
     obtain ⟨hq, hm⟩ := hm
     refine only 7 kr (by rfl) (call hS kr kr hb31 kr (fun _ _ => rfl) (k31 _ _ l_ y117 a2 c2 hq h116) ?_)
     intro v138 a w139 X140 hE hp hS
     replace hO := hO.m2 hE
     replace hD := hD.ev hE rfl
     replace h115 := h115.m1 hE
     replace h116 := h116.m1 hE
     obtain ⟨r141, hr⟩ : ∃ r, dD l_ y117 = r := ⟨_, rfl⟩
     replace hm := hm r141 hr
     rw [hr] at hp
     clear hr
     subst hp
     replace hS := hS.slb [(0, Sl a1 objects c1), (1, Sl a2 l_ c2), (11, I y117), (12, Pt 13 0), (72, B true), (73, Sl a2 l_ c2), (74, I y117), (77, I ((gi l_ y117).ar)), (75, I r141)]
     refine bX (bl.of hS (bks := [13]) kr hD) ?_
     intro hH
     refine tkb T [10, 11] [13] hS hH (tts 12) 0 [(0, Sl a1 objects c1), (1, Sl a2 l_ c2), (11, I y117), (12, Pt 13 0), (79, B (r141 != ((gi l_ y117).ar)))] fun a hS => ?_
     refine aM kr ?_
     replace hS := hS.slb [(0, Sl a1 objects c1), (1, Sl a2 l_ c2), (11, I y117), (12, Pt 13 0), (79, B (r141 != ((gi l_ y117).ar)))]
     exact ⟨Z, _, (r141 != ((gi l_ y117).ar)), hm, hS.sl _, hO, h115, h116⟩
    replace hS := hS.lit (t := 72) kr hb
    replace hm := hm.2 hb
    refine tkb T [5, 6, 8, 7, 9, 10, 11] [13] hS hH (tts 12) 0 [(0, Sl a1 objects c1), (1, Sl a2 l_ c2), (11, I y117), (12, Pt 13 0), (79, B false)] fun a hS => ?_
    refine aM kr ?_
    replace hS := hS.slb [(0, Sl a1 objects c1), (1, Sl a2 l_ c2), (11, I y117), (12, Pt 13 0), (79, B false)]
    exact ⟨Z, _, false, hm, hS.sl _, hO, h115, h116⟩
   rintro a w143 ⟨Z, X142, y123, hm, hS, hO, h121, h122⟩
   unfold VC7_J3 at hm
   refine aG hS (b := y123) kr (fun hb => ?_) fun hb => ?_
   ·replace hm := hm.1 hb
    refine rP T hS ⟨[(4, I y117), (5, I 32)], []⟩ fun a hS => ?_
    refine aU ?_
    exact fin T hS hO (fun c => c) rfl (r := [.int .i64 y117, .int .i64 32]) kr (fun X' hM hC => ⟨(y117, 32), hm, rfl⟩)
   replace hm := hm.2 hb
   refine aJ ?_
   refine bU (fun a w => ∃ (Z : Nat -> Nat) (X : Nat -> Nat) (y126 : Bool), VC7_J4 Q I1 μ1 y117 y126 /\ St Try.f7.ntmps ⟨[(0, Sl a1 objects c1), (1, Sl a2 l_ c2), (11, I y117), (96, B y126)], []⟩ Z a w X /\ Old w0 X0 w X /\ RS aE w X a1 objects c1 /\ RS bj w X a2 l_ c2) ?_ ?_
   ·refine fj [13] mixed hS ?_
    intro w127 X128 hS hE hD hH
    replace hO := hO.m2 hE
    replace h121 := h121.m1 hE
    replace h122 := h122.m1 hE
    refine tkb T [0, 1, 2, 3, 4] [13] hS hH #[true, true, true, true, true, false, false, false, false, false, false, false, false, false, false, false] 11 [(0, Sl a1 objects c1), (1, Sl a2 l_ c2), (11, I y117), (12, Pt 13 0), (85, B ((((gi l_ y117).aH).aY) == 1))] fun a hS => ?_
    rcases bft ((((gi l_ y117).aH).aY) == 1) with hb | hb
    ·replace hS := hS.lit (t := 85) kr hb
     replace hm := hm.1 hb
     refine tkb T [5, 8, 9, 6, 10, 7] [13] hS hH #[true, true, true, true, true, true, true, true, true, true, true, false, false, false, false, false] 5 [(0, Sl a1 objects c1), (1, Sl a2 l_ c2), (11, I y117), (85, B true), (88, I (((gi l_ y117).aH).N)), (89, Sl a1 objects c1), (91, I ((gi l_ y117).ar))] fun a hS => ?_
     obtain ⟨hq, hm⟩ := hm
     refine cD (e := 42) (k := .i64) T 11 hS kr kr kr (by rfl) kr hH kr kr h121 kr kr hq.1 hq.2 ?_
     intro A129 a h130 hS
     have h130b := h130.here
     refine db (off := 1) (fsz := 1) (ft := 3) (TF := tI) (y := (gi objects ((gi l_ y117).ar)).av) 12 T hS kr kr kr (by rfl) kr hH kr h130 kr kr kr (fun cs h => hX h) ?_
     intro A131 a h132 hbl hS
     have h132b := h130b
     rw [← hbl] at h132b
     clear hbl
     refine dB T 13 hS kr kr kr (by rfl) kr hH kr h132 h132b rfl kr ?_
     intro v133 a hv hS
     cases hv
     refine tkb T [14, 15] [13] hS hH (tts 16) 0 [(0, Sl a1 objects c1), (1, Sl a2 l_ c2), (11, I y117), (96, B (decide ((((gi l_ y117).aH).N) ≥ ((gi objects ((gi l_ y117).ar)).av))))] fun a hS => ?_
     refine aM kr ?_
     replace hS := hS.sl ⟨[(0, Sl a1 objects c1), (1, Sl a2 l_ c2), (11, I y117), (96, B (decide ((((gi l_ y117).aH).N) ≥ ((gi objects ((gi l_ y117).ar)).av))))], []⟩
     exact ⟨Z, _, decide ((((gi l_ y117).aH).N) ≥ ((gi objects ((gi l_ y117).ar)).av)), hm, hS.sl _, hO, h121, h122⟩
    replace hS := hS.lit (t := 85) kr hb
    replace hm := hm.2 hb
    refine tkb T [5, 8, 9, 6, 10, 7, 11, 12, 13, 14, 15] [13] hS hH (tts 16) 0 [(0, Sl a1 objects c1), (1, Sl a2 l_ c2), (11, I y117), (96, B false)] fun a hS => ?_
    refine aM kr ?_
    replace hS := hS.sl ⟨[(0, Sl a1 objects c1), (1, Sl a2 l_ c2), (11, I y117), (96, B false)], []⟩
    exact ⟨Z, _, false, hm, hS.sl _, hO, h121, h122⟩
   rintro a w135 ⟨Z, X134, y126, hm, hS, hO, h124, h125⟩
   unfold VC7_J4 at hm
   refine aG hS (b := y126) kr (fun hb => ?_) fun hb => ?_
   ·replace hm := hm.1 hb
    refine rPb T hS [(4, I y117), (5, I 31)] fun a hS => ?_
    refine aU ?_
    exact fin T hS hO (fun c => c) rfl (r := [.int .i64 y117, .int .i64 31]) kr (fun X' hM hC => ⟨(y117, 31), hm, rfl⟩)
   replace hm := hm.2 hb
   refine aJ ?_
   refine region (ePb T hS [(0, Sl a1 objects c1), (1, Sl a2 l_ c2), (11, I (wR (y117 + 1)))] fun a hS => ?_)
   exact ⟨wR (y117 + 1), ⟨Z, _, hm.1, hS.sl _, hO, h124, h125⟩, hm.2⟩
  replace hm := hm.2 hb
  refine b0 (by rfl) ?_
  exact ⟨Z, _, hm, hS.sl _, hO, h116⟩
 rintro a w149 ⟨Z, X148, hm, hS, hO, h114⟩
 unfold VC7_J2 at hm
 refine rPb T hS [(4, I (lN l_)), (5, I 0)] fun a hS => ?_
 refine aU ?_
 exact fin T hS hO (fun c => c) rfl (r := [.int .i64 (lN l_), .int .i64 0]) kr (fun X' hM hC => ⟨((lN l_), 0), hm, rfl⟩)
theorem C7 (k28 : S28) (k29 : S29) (k30 : S30) (k31 : S31) (v : ∀ (objects : List ai) (l_ : List aD), fJ objects l_ -> VC7 objects l_ (fun r => r = cl objects l_)) : S7 := by
 intro w X objects l_ a1 c1 a2 c2   hp h1 h2
 refine (W7 k28 k29 k30 k31 w X objects l_ a1 c1 a2 c2   _ (v objects l_ hp) h1 h2).mono ?_
 rintro _ _ _ _ ⟨r, rfl, h⟩
 exact h
theorem W35 (w0) (X0) (i_ : Int) (cap1 : ak) (cap2 : Int) (a1) (c1) (a2) (c2) (b1) (i1) (b2) (i2) (Q : Bool -> Prop) (hm : VC35 i_ cap1 cap2 Q) (h1 : RS aE w0 X0 a1 cap1.ae c1) (h2 : RS aK w0 X0 a2 cap1.aj c2) (hc1 : Cell w0 X0 b1 i1 25 [.slice a1 cap1.ae.length c1, .slice a2 cap1.aj.length c2]) (hc2 : Cell w0 X0 b2 i2 3 [.int .i64 cap2]) (hA : cH [i1, i2]) :
  Ret Try.prog 35 #[.int .i64 i_, .pointer (some ⟨b1, 0, none⟩), .pointer (some ⟨b2, 0, none⟩)] (pR [i1, i2]) w0 X0 (fun w X' v => ∃ r, Q r /\ v = .bool r /\ Cell w X' b1 i1 25 [.slice a1 cap1.ae.length c1, .slice a2 cap1.aj.length c2] /\ Cell w X' b2 i2 3 [.int .i64 cap2]) := by
 unfold VC35 at hm
 replace hm := hm (h1.sm kr)
 replace hm := hm (h2.sm kr)
 refine dI Try.func35 rfl (cy [(i1, 901), (i2, 902)]) (fun id => (bif Nat.beq id 901 then b1 else (bif Nat.beq id 902 then b2 else 0))) (args := [I i_, Pt 901 0, Pt 902 0]) (bxs := [(901, (25, [Sl a1 cap1.ae c1, Sl a2 cap1.aj c2])), (902, (3, [I cap2]))]) kr rfl (a8.cons kr (hc1.map (bn 0 hA.1 rfl)) (a8.cons kr (hc2.map (bn 1 hA.1 rfl)) a8.nil)) (dA (fun q hq => (hA.2 q.1 (List.mem_map.2 ⟨q, hq, rfl⟩)).1)) ?_
 intro a hS hO hM
 have hP : Pin [(901, b1), (902, b2)] (fun id => (bif Nat.beq id 901 then b1 else (bif Nat.beq id 902 then b2 else 0))) := by intro q hq; simp at hq; rcases hq with rfl | rfl <;> rfl
 generalize (fun id => (bif Nat.beq id 901 then b1 else (bif Nat.beq id 902 then b2 else 0))) = Z at hS hP
 clear hc1 hc2
 replace h1 := h1.m0 hM
 replace h2 := h2.m0 hM
 refine rPb T hS [(0, I i_), (1, Pt 901 0), (2, Pt 902 0)] fun a hS => ?_
 refine ct [901, 902] mixed hS ?_
 intro w101 X102 hS hE hD hH
 replace hO := hO.m2 hE
 replace h1 := h1.m1 hE
 replace h2 := h2.m1 hE
 refine tkb T [0, 2, 6, 1] [901, 902] hS hH #[true, true, true, false, false, false, true, false, false] 5 [(6, Sl a2 cap1.aj c2), (7, I i_), (11, I cap2)] fun a hS => ?_
 obtain ⟨hq, hm⟩ := hm
 refine cD (e := 64) (k := .i64) T 3 hS kr kr kr (by rfl) kr hH kr kr h2 kr kr hq.1 hq.2 ?_
 intro A103 a h104 hS
 have h104b := h104.here
 refine db (off := 0) (fsz := 1) (ft := 3) (TF := tI) (y := (gi cap1.aj i_).ar) 4 T hS kr kr kr (by rfl) kr hH kr h104 kr kr kr (fun cs h => fU h) ?_
 intro A105 a h106 hbl hS
 have h106b := h104b
 rw [← hbl] at h106b
 clear hbl
 refine dB T 5 hS kr kr kr (by rfl) kr hH kr h106 h106b rfl kr ?_
 intro v107 a hv hS
 cases hv
 refine tkb T [7, 8] [901, 902] hS hH (tts 9) 0 [(4, B (((gi cap1.aj i_).ar) == cap2))] fun a hS => ?_
 refine aM kr ?_
 replace hS := hS.slb [(4, B (((gi cap1.aj i_).ar) == cap2))]
 refine aU ?_
 exact eA T hS hO (fun c h => bu kr h) (fun c h => bw (l := [(i1, 901), (i2, 902)]) h) (bq [(i1, 901), (i2, 902)]) rfl (r := [.bool (((gi cap1.aj i_).ar) == cap2)]) kr (fun X' hM hC => ⟨(((gi cap1.aj i_).ar) == cap2), hm, rfl, ((hS.cell (id := 901) (t := 25) (cs := [Sl a1 cap1.ae c1, Sl a2 cap1.aj c2]) kr).out (f := (bq [(i1, 901), (i2, 902)])) hC kr kr (hP.at 0 rfl)), ((hS.cell (id := 902) (t := 3) (cs := [I cap2]) kr).out (f := (bq [(i1, 901), (i2, 902)])) hC kr kr (hP.at 1 rfl))⟩)
theorem C35 (v : ∀ (i_ : Int) (cap1 : ak) (cap2 : Int), nj i_ cap1 cap2 -> VC35 i_ cap1 cap2 (fun r => r = da i_ cap1 cap2)) : S35 := by
 intro w X i_ cap1 cap2 a1 c1 a2 c2  b1 i1 b2 i2 hp h1 h2 hc1 hc2 hA
 refine (W35 w X i_ cap1 cap2 a1 c1 a2 c2  b1 i1 b2 i2 _ (v i_ cap1 cap2 hp) h1 h2 hc1 hc2 hA).mono ?_
 rintro _ _ _ _ ⟨r, rfl, h⟩
 exact h
end Go.Proofs.Yteahldlmkheleaa
