/- Walks: each function returns what its condition asks. Condition: the contracts of its callees, handed in. -/
import Derived.Test.YtkgcdoeldilhaaaDoorNWalksS
set_option linter.all false
namespace Go.Proofs.YtkgcdoeldilhaaaDoor
open Go Go.Sv
set_option maxHeartbeats 1000000
/-- replevin/objtext.Numbers -/
theorem W51 (k63 : S63) (w0 : World) (χ0 : Nat → Nat) (l_ : List Token_Token) (word : List UInt8) (lo : List Int) (hi : List Int) (end_ : Int) (a1 : Option Addr) (c1 : Nat) (a2 : Option Addr) (c2 : Nat) (a3 : Option Addr) (c3 : Nat) (Q : (List Int) × Int × Int → Prop) (hm : VC51 l_ word lo hi end_ Q) (h1 : RS tToken_Token w0 χ0 a1 l_ c1) (h2 : RS tI w0 χ0 a2 lo c2) (h3 : RS tI w0 χ0 a3 hi c3) :
  Ret Tryd.prog 51 #[.slice a1 l_.length c1, .string (bs word), .slice a2 lo.length c2, .slice a3 hi.length c3, .int .i64 end_] xnone w0 χ0 (fun w χ' v => ∃ r, Q r ∧ ∃ (ra1 : Option Addr) (rc1 : Nat), v = .tuple #[.slice ra1 r.1.length rc1, .int .i64 r.2.1, .int .i64 r.2.2] ∧ RS tI w χ' ra1 r.1 rc1) := by
 unfold VC51 at hm
 replace hm := hm (h1.sm kr)
 replace hm := hm (h2.sm kr)
 replace hm := hm (h3.sm kr)
 refine enter Tryd.func51 rfl (vals := [.slice a1 l_.length c1, .string (bs word), .slice a2 lo.length c2, .slice a3 hi.length c3, .int .i64 end_]) kr ?_
 intro ρ a hS hO hM
 replace h1 := h1.m0 hM
 replace h2 := h2.m0 hM
 replace h3 := h3.m0 hM
 clear hM
 refine rP T hS ⟨[(0, Sl a1 l_ c1), (1, Z word), (2, Sl a2 lo c2), (3, Sl a3 hi c3), (4, I end_)], []⟩ fun a hS => ?_
 refine wseq ?_
 refine rP T hS ⟨[(0, Sl a1 l_ c1), (1, Z word), (2, Sl a2 lo c2), (3, Sl a3 hi c3), (4, I end_), (21, B (((l_.length : Nat) : Int) == 0))], []⟩ fun a hS => ?_
 refine wcond hS (b := (((l_.length : Nat) : Int) == 0)) kr (fun hb => ?_) (fun hb => ?_)
 ·replace hm := hm.1 hb
  refine rP T hS ⟨[(10, V (.slice none 0 0)), (11, I end_), (12, I 4)], []⟩ fun a hS => ?_
  refine wret ?_
  exact fin T hS hO (fun c => c) rfl (r := [.slice none 0 0, .int .i64 end_, .int .i64 4]) kr (fun χ' hM hC => ⟨([], end_, 4), hm, none, 0, rfl, RS.empty _ _ _⟩)
 ·replace hm := hm.2 hb
  refine wskip ?_
  refine wseq ?_
  refine regO ?_
  refine oP T hS 1 ⟨[(0, Sl a1 l_ c1), (1, Z word), (2, Sl a2 lo c2), (3, Sl a3 hi c3), (4, I end_), (23, Sl a1 l_ c1)], []⟩ fun a hS => ?_
  obtain ⟨hq, hm⟩ := hm
  refine op1 (index (e := 61) (k := .i64) T hS kr kr kr kr h1 kr kr hq.1 hq.2 ?_)
  intro A101 a h102 hS
  clear hq
  refine op1 (fieldA (off := 2) (fsz := 1) (ft := 9) (TF := tStr) (y := (gi l_ 0).Text) T hS kr kr kr h102 kr kr kr (fun cs h => Token_Token_f2 h) ?_)
  intro A103 a h104 hS
  refine op1 (load1 T hS kr kr kr h104 rfl kr ?_)
  intro v105 a hv hS
  cases hv
  refine eP T hS ⟨[(0, Sl a1 l_ c1), (2, Sl a2 lo c2), (3, Sl a3 hi c3), (4, I end_), (28, B (!(((gi l_ 0).Text) == word)))], []⟩ fun a hS => ?_
  refine wcond hS (b := (!(((gi l_ 0).Text) == word))) kr (fun hb => ?_) (fun hb => ?_)
  ·replace hm := hm.1 hb
   refine drawnSX [] mixed hS ?_
   intro w106 χ107 hS hE hD hH
   replace hO := hO.mv hE rfl rfl
   replace h1 := h1.mv hE rfl
   clear hE
   refine tk T [0, 4] [] hS hH #[true, false, false, false, true, false, false] 5 ⟨[(10, V (.slice none 0 0)), (29, Sl a1 l_ c1)], []⟩ fun a hS => ?_
   obtain ⟨hq, hm⟩ := hm
   refine dindex (e := 61) (k := .i64) T 1 hS kr kr kr (by rfl) kr hH kr kr h1 kr kr hq.1 hq.2 ?_
   intro A108 a h109 hS
   clear hq
   have h109b := h109.here
   refine dfieldA (off := 1) (fsz := 1) (ft := 3) (TF := tI) (y := (gi l_ 0).At) 2 T hS kr kr kr (by rfl) kr hH kr h109 kr kr kr (fun cs h => Token_Token_f1 h) ?_
   intro A110 a h111 hbl hS
   have h111b := h109b
   rw [← hbl] at h111b
   clear hbl
   refine dload1 T 3 hS kr kr kr (by rfl) kr hH kr h111 h111b rfl kr ?_
   intro v112 a hv hS
   cases hv
   refine tk T [5, 6] [] hS hH #[true, true, true, true, true, true, true] 0 ⟨[(10, V (.slice none 0 0)), (11, I ((gi l_ 0).At)), (12, I 8)], []⟩ fun a hS => ?_
   refine drawnDone kr ?_
   clear hD hH
   replace hS := hS.sl ⟨[(10, V (.slice none 0 0)), (11, I ((gi l_ 0).At)), (12, I 8)], []⟩
   refine wret ?_
   exact fin T hS hO (fun c => c) rfl (r := [.slice none 0 0, .int .i64 ((gi l_ 0).At), .int .i64 8]) kr (fun χ' hM hC => ⟨([], (gi l_ 0).At, 8), hm, none, 0, rfl, RS.empty _ _ _⟩)
  ·replace hm := hm.2 hb
   refine wskip ?_
   refine regO ?_
   refine oP T hS 4 ⟨[(0, Sl a1 l_ c1), (2, Sl a2 lo c2), (3, Sl a3 hi c3), (4, I end_), (33, Sl a1 l_ c1), (36, I (IntKind.i64.wrap (((l_.length : Nat) : Int) - 1)))], []⟩ fun a hS => ?_
   obtain ⟨hq, hm⟩ := hm
   refine op1 (index (e := 61) (k := .i64) T hS kr kr kr kr h1 kr kr hq.1 hq.2 ?_)
   intro A113 a h114 hS
   clear hq
   refine op1 (loadA T hS kr kr kr h114 kr kr ?_)
   intro v115 a hv hS
   subst hv
   refine eM T hS ⟨[(0, Sl a1 l_ c1), (2, Sl a2 lo c2), (3, Sl a3 hi c3), (4, I end_), (13, Pt 14 0)], [(14, (61, [I ((gi l_ (IntKind.i64.wrap (((l_.length : Nat) : Int) - 1))).Line), I ((gi l_ (IntKind.i64.wrap (((l_.length : Nat) : Int) - 1))).At), Z ((gi l_ (IntKind.i64.wrap (((l_.length : Nat) : Int) - 1))).Text)]))]⟩ fun ρ a w172 χ173 hS hE hr => ?_
   replace hO := hO.mv hE rfl rfl
   replace h1 := h1.mv hE rfl
   replace h2 := h2.mv hE rfl
   replace h3 := h3.mv hE rfl
   clear hE hr
   refine rP T hS ⟨[(0, Sl a1 l_ c1), (2, Sl a2 lo c2), (3, Sl a3 hi c3), (4, I end_), (13, Pt 14 0), (14, V (.slice none 0 0))], [(14, (61, [I ((gi l_ (IntKind.i64.wrap (((l_.length : Nat) : Int) - 1))).Line), I ((gi l_ (IntKind.i64.wrap (((l_.length : Nat) : Int) - 1))).At), Z ((gi l_ (IntKind.i64.wrap (((l_.length : Nat) : Int) - 1))).Text)]))]⟩ fun a hS => ?_
   refine wcut (fun a w => ∃ (ρ : Nat → Nat) (χ : Nat → Nat) (out_117 : List Int) (a118 : Option Addr) (c119 : Nat), VC51_J1 l_ end_ Q out_117 ∧ St Tryd.f51.ntmps ⟨[(0, Sl a1 l_ c1), (4, I end_), (14, Sl a118 out_117 c119)], []⟩ ρ a w χ ∧ Old w0 χ0 w χ ∧ RS tToken_Token w χ a1 l_ c1 ∧ OS tI 3 w χ 1011 a118 out_117 c119) ?_ ?_
   ·refine rP T hS ⟨[(0, Sl a1 l_ c1), (2, Sl a2 lo c2), (3, Sl a3 hi c3), (4, I end_), (13, Pt 14 0), (14, V (.slice none 0 0)), (43, I (if ((hi.length : Nat) : Int) < ((lo.length : Nat) : Int) then ((hi.length : Nat) : Int) else ((lo.length : Nat) : Int))), (44, I 0)], [(14, (61, [I ((gi l_ (IntKind.i64.wrap (((l_.length : Nat) : Int) - 1))).Line), I ((gi l_ (IntKind.i64.wrap (((l_.length : Nat) : Int) - 1))).At), Z ((gi l_ (IntKind.i64.wrap (((l_.length : Nat) : Int) - 1))).Text)]))]⟩ fun a hS => ?_
    refine wblock ?_
    obtain ⟨I1, μ1, hm0, hm⟩ := hm
    refine wloop (σ := (List Int) × Int) (fun s a w => ∃ (ρ : Nat → Nat) (χ : Nat → Nat) (a134 : Option Addr) (c135 : Nat), I1 s.1 s.2 ∧ St Tryd.f51.ntmps ⟨[(0, Sl a1 l_ c1), (2, Sl a2 lo c2), (3, Sl a3 hi c3), (4, I end_), (13, Pt 14 0), (14, Sl a134 s.1 c135), (43, I (if ((hi.length : Nat) : Int) < ((lo.length : Nat) : Int) then ((hi.length : Nat) : Int) else ((lo.length : Nat) : Int))), (44, I s.2)], [(14, (61, [I ((gi l_ (IntKind.i64.wrap (((l_.length : Nat) : Int) - 1))).Line), I ((gi l_ (IntKind.i64.wrap (((l_.length : Nat) : Int) - 1))).At), Z ((gi l_ (IntKind.i64.wrap (((l_.length : Nat) : Int) - 1))).Text)]))]⟩ ρ a w χ ∧ Old w0 χ0 w χ ∧ RS tToken_Token w χ a1 l_ c1 ∧ RS tI w χ a2 lo c2 ∧ RS tI w χ a3 hi c3 ∧ OS tI 3 w χ 1011 a134 s.1 c135) (fun s => μ1 s.1 s.2) (⟨[], 0⟩) ?_ ?_
    ·exact ⟨ρ, _, none, 0, hm0, hS.sl _, hO, h1, h2, h3, (OS.nil _ _ _ _ _)⟩
    ·rintro ⟨out_133, x_137⟩ a w169 ⟨ρ, χ168, a134, c135, hI, hS, hO, h130, h131, h132, h136⟩
     replace hm := hm out_133 x_137 hI
     clear hI hm0
     refine rP T hS ⟨[(0, Sl a1 l_ c1), (2, Sl a2 lo c2), (3, Sl a3 hi c3), (4, I end_), (13, Pt 14 0), (14, Sl a134 out_133 c135), (43, I (if ((hi.length : Nat) : Int) < ((lo.length : Nat) : Int) then ((hi.length : Nat) : Int) else ((lo.length : Nat) : Int))), (44, I x_137), (45, B (decide (x_137 < (if ((hi.length : Nat) : Int) < ((lo.length : Nat) : Int) then ((hi.length : Nat) : Int) else ((lo.length : Nat) : Int)))))], [(14, (61, [I ((gi l_ (IntKind.i64.wrap (((l_.length : Nat) : Int) - 1))).Line), I ((gi l_ (IntKind.i64.wrap (((l_.length : Nat) : Int) - 1))).At), Z ((gi l_ (IntKind.i64.wrap (((l_.length : Nat) : Int) - 1))).Text)]))]⟩ fun a hS => ?_
     refine wseq ?_
     refine wcond hS (b := decide (x_137 < (if ((hi.length : Nat) : Int) < ((lo.length : Nat) : Int) then ((hi.length : Nat) : Int) else ((lo.length : Nat) : Int)))) kr (fun hb => ?_) (fun hb => ?_)
     ·replace hm := hm.1 hb
      refine wskip ?_
      refine wseq ?_
      refine wblock ?_
      refine rP T hS ⟨[(0, Sl a1 l_ c1), (2, Sl a2 lo c2), (3, Sl a3 hi c3), (4, I end_), (13, Pt 14 0), (14, Sl a134 out_133 c135), (15, I x_137), (43, I (if ((hi.length : Nat) : Int) < ((lo.length : Nat) : Int) then ((hi.length : Nat) : Int) else ((lo.length : Nat) : Int))), (44, I x_137)], [(14, (61, [I ((gi l_ (IntKind.i64.wrap (((l_.length : Nat) : Int) - 1))).Line), I ((gi l_ (IntKind.i64.wrap (((l_.length : Nat) : Int) - 1))).At), Z ((gi l_ (IntKind.i64.wrap (((l_.length : Nat) : Int) - 1))).Text)]))]⟩ fun a hS => ?_
      refine wseq ?_
      refine rP T hS ⟨[(0, Sl a1 l_ c1), (2, Sl a2 lo c2), (3, Sl a3 hi c3), (4, I end_), (13, Pt 14 0), (14, Sl a134 out_133 c135), (15, I x_137), (43, I (if ((hi.length : Nat) : Int) < ((lo.length : Nat) : Int) then ((hi.length : Nat) : Int) else ((lo.length : Nat) : Int))), (44, I x_137), (51, B (decide ((IntKind.i64.wrap (x_137 + 1)) ≥ ((l_.length : Nat) : Int))))], [(14, (61, [I ((gi l_ (IntKind.i64.wrap (((l_.length : Nat) : Int) - 1))).Line), I ((gi l_ (IntKind.i64.wrap (((l_.length : Nat) : Int) - 1))).At), Z ((gi l_ (IntKind.i64.wrap (((l_.length : Nat) : Int) - 1))).Text)]))]⟩ fun a hS => ?_
      refine wcond hS (b := decide ((IntKind.i64.wrap (x_137 + 1)) ≥ ((l_.length : Nat) : Int))) kr (fun hb => ?_) (fun hb => ?_)
      ·replace hm := hm.1 hb
       refine drawnSX [14] mixed hS ?_
       intro w138 χ139 hS hE hD hH
       replace hO := hO.mv hE rfl rfl
       clear hE
       refine tk T [0, 2, 6, 1, 3, 4, 5, 7, 8] [14] hS hH #[true, true, true, true, true, true, true, true, true] 0 ⟨[(10, V (.slice none 0 0)), (11, I (IntKind.i64.wrap (((gi l_ (IntKind.i64.wrap (((l_.length : Nat) : Int) - 1))).At) + ((((gi l_ (IntKind.i64.wrap (((l_.length : Nat) : Int) - 1))).Text).length : Nat) : Int)))), (12, I 4)], [(14, (61, [I ((gi l_ (IntKind.i64.wrap (((l_.length : Nat) : Int) - 1))).Line), I ((gi l_ (IntKind.i64.wrap (((l_.length : Nat) : Int) - 1))).At), Z ((gi l_ (IntKind.i64.wrap (((l_.length : Nat) : Int) - 1))).Text)]))]⟩ fun a hS => ?_
       refine drawnDone kr ?_
       clear hD hH
       replace hS := hS.sl ⟨[(10, V (.slice none 0 0)), (11, I (IntKind.i64.wrap (((gi l_ (IntKind.i64.wrap (((l_.length : Nat) : Int) - 1))).At) + ((((gi l_ (IntKind.i64.wrap (((l_.length : Nat) : Int) - 1))).Text).length : Nat) : Int)))), (12, I 4)], []⟩
       refine wret ?_
       exact fin T hS hO (fun c => c) rfl (r := [.slice none 0 0, .int .i64 (IntKind.i64.wrap (((gi l_ (IntKind.i64.wrap (((l_.length : Nat) : Int) - 1))).At) + ((((gi l_ (IntKind.i64.wrap (((l_.length : Nat) : Int) - 1))).Text).length : Nat) : Int))), .int .i64 4]) kr (fun χ' hM hC => ⟨([], IntKind.i64.wrap (((gi l_ (IntKind.i64.wrap (((l_.length : Nat) : Int) - 1))).At) + ((((gi l_ (IntKind.i64.wrap (((l_.length : Nat) : Int) - 1))).Text).length : Nat) : Int)), 4), hm, none, 0, rfl, RS.empty _ _ _⟩)
      ·replace hm := hm.2 hb
       refine wskip ?_
       refine regO ?_
       refine oP T hS 3 ⟨[(0, Sl a1 l_ c1), (2, Sl a2 lo c2), (3, Sl a3 hi c3), (4, I end_), (13, Pt 14 0), (14, Sl a134 out_133 c135), (15, I x_137), (43, I (if ((hi.length : Nat) : Int) < ((lo.length : Nat) : Int) then ((hi.length : Nat) : Int) else ((lo.length : Nat) : Int))), (44, I x_137), (58, Sl a1 l_ c1), (60, I (IntKind.i64.wrap (x_137 + 1)))], [(14, (61, [I ((gi l_ (IntKind.i64.wrap (((l_.length : Nat) : Int) - 1))).Line), I ((gi l_ (IntKind.i64.wrap (((l_.length : Nat) : Int) - 1))).At), Z ((gi l_ (IntKind.i64.wrap (((l_.length : Nat) : Int) - 1))).Text)]))]⟩ fun a hS => ?_
       obtain ⟨hq, hm⟩ := hm
       refine op1 (index (e := 61) (k := .i64) T hS kr kr kr kr h130 kr kr hq.1 hq.2 ?_)
       intro A140 a h141 hS
       clear hq
       refine op1 (loadA T hS kr kr kr h141 kr kr ?_)
       intro v142 a hv hS
       subst hv
       refine eM T hS ⟨[(0, Sl a1 l_ c1), (2, Sl a2 lo c2), (3, Sl a3 hi c3), (4, I end_), (13, Pt 14 0), (14, Sl a134 out_133 c135), (15, I x_137), (16, Pt 17 0), (43, I (if ((hi.length : Nat) : Int) < ((lo.length : Nat) : Int) then ((hi.length : Nat) : Int) else ((lo.length : Nat) : Int))), (44, I x_137)], [(14, (61, [I ((gi l_ (IntKind.i64.wrap (((l_.length : Nat) : Int) - 1))).Line), I ((gi l_ (IntKind.i64.wrap (((l_.length : Nat) : Int) - 1))).At), Z ((gi l_ (IntKind.i64.wrap (((l_.length : Nat) : Int) - 1))).Text)])), (17, (61, [I ((gi l_ (IntKind.i64.wrap (x_137 + 1))).Line), I ((gi l_ (IntKind.i64.wrap (x_137 + 1))).At), Z ((gi l_ (IntKind.i64.wrap (x_137 + 1))).Text)]))]⟩ fun ρ a w166 χ167 hS hE hr => ?_
       replace hO := hO.mv hE rfl rfl
       replace h130 := h130.mv hE rfl
       replace h131 := h131.mv hE rfl
       replace h132 := h132.mv hE rfl
       replace h136 := h136.mv hE rfl rfl
       clear hE hr
       refine drawnSX [14, 17] mixed hS ?_
       intro w143 χ144 hS hE hD hH
       replace hO := hO.mv hE rfl rfl
       replace h130 := h130.mv hE rfl
       replace h131 := h131.mv hE rfl
       replace h132 := h132.mv hE rfl
       replace h136 := h136.mv hE rfl rfl
       clear hE
       refine tk T [0, 2, 3, 6, 7, 1] [14, 17] hS hH #[true, true, true, true, false, false, true, true, false, false, false, false, false, false, false, false] 10 ⟨[(0, Sl a1 l_ c1), (2, Sl a2 lo c2), (3, Sl a3 hi c3), (4, I end_), (13, Pt 14 0), (14, Sl a134 out_133 c135), (16, Pt 17 0), (43, I (if ((hi.length : Nat) : Int) < ((lo.length : Nat) : Int) then ((hi.length : Nat) : Int) else ((lo.length : Nat) : Int))), (44, I x_137), (65, Z ((gi l_ (IntKind.i64.wrap (x_137 + 1))).Text)), (66, Sl a2 lo c2), (67, I x_137), (70, Sl a3 hi c3), (71, I x_137)], [(14, (61, [I ((gi l_ (IntKind.i64.wrap (((l_.length : Nat) : Int) - 1))).Line), I ((gi l_ (IntKind.i64.wrap (((l_.length : Nat) : Int) - 1))).At), Z ((gi l_ (IntKind.i64.wrap (((l_.length : Nat) : Int) - 1))).Text)])), (17, (61, [I ((gi l_ (IntKind.i64.wrap (x_137 + 1))).Line), I ((gi l_ (IntKind.i64.wrap (x_137 + 1))).At), Z ((gi l_ (IntKind.i64.wrap (x_137 + 1))).Text)]))]⟩ fun a hS => ?_
       obtain ⟨hq, hm⟩ := hm
       refine dindex (e := 3) (k := .i64) T 4 hS kr kr kr (by rfl) kr hH kr kr h131 kr kr hq.1 hq.2 ?_
       intro A145 a h146 hS
       clear hq
       have h146b := h146.here
       refine dload1 T 5 hS kr kr kr (by rfl) kr hH kr h146 h146b rfl kr ?_
       intro v147 a hv hS
       cases hv
       obtain ⟨hq, hm⟩ := hm
       refine dindex (e := 3) (k := .i64) T 8 hS kr kr kr (by rfl) kr hH kr kr h132 kr kr hq.1 hq.2 ?_
       intro A148 a h149 hS
       clear hq
       have h149b := h149.here
       refine dload1 T 9 hS kr kr kr (by rfl) kr hH kr h149 h149b rfl kr ?_
       intro v150 a hv hS
       cases hv
       obtain ⟨hq, hm⟩ := hm
       refine only 10 kr (by rfl) (call hS kr kr hb63 kr (fun _ _ => rfl) (k63 _ _ ((gi l_ (IntKind.i64.wrap (x_137 + 1))).Text) (gi lo x_137) (gi hi x_137) hq) ?_)
       intro v151 a w152 χ153 hE hp hS
       clear hq
       replace hO := hO.mv hE rfl rfl
       replace hD := hD.ev hE rfl
       replace h130 := h130.mv hE rfl
       replace h131 := h131.mv hE rfl
       replace h132 := h132.mv hE rfl
       replace h136 := h136.mv hE rfl rfl
       replace h146 := h146.mv hE rfl
       replace h149 := h149.mv hE rfl
       clear hE
       obtain ⟨r154, hr⟩ : ∃ r, token_Number ((gi l_ (IntKind.i64.wrap (x_137 + 1))).Text) (gi lo x_137) (gi hi x_137) = r := ⟨_, rfl⟩
       replace hm := hm r154 hr
       rw [hr] at hp
       clear hr
       subst hp
       replace hS := hS.sl ⟨[(0, Sl a1 l_ c1), (2, Sl a2 lo c2), (3, Sl a3 hi c3), (4, I end_), (13, Pt 14 0), (14, Sl a134 out_133 c135), (16, Pt 17 0), (43, I (if ((hi.length : Nat) : Int) < ((lo.length : Nat) : Int) then ((hi.length : Nat) : Int) else ((lo.length : Nat) : Int))), (44, I x_137), (65, Z ((gi l_ (IntKind.i64.wrap (x_137 + 1))).Text)), (66, Sl a2 lo c2), (67, I x_137), (70, Sl a3 hi c3), (71, I x_137), (68, V (.pointer (some A145))), (69, I (gi lo x_137)), (72, V (.pointer (some A148))), (73, I (gi hi x_137)), (74, V (.tuple #[.int .i64 r154.1, .int .i64 r154.2]))], [(14, (61, [I ((gi l_ (IntKind.i64.wrap (((l_.length : Nat) : Int) - 1))).Line), I ((gi l_ (IntKind.i64.wrap (((l_.length : Nat) : Int) - 1))).At), Z ((gi l_ (IntKind.i64.wrap (((l_.length : Nat) : Int) - 1))).Text)])), (17, (61, [I ((gi l_ (IntKind.i64.wrap (x_137 + 1))).Line), I ((gi l_ (IntKind.i64.wrap (x_137 + 1))).At), Z ((gi l_ (IntKind.i64.wrap (x_137 + 1))).Text)]))]⟩
       refine andH (Hold.of hS (bks := [14, 17]) kr hD) ?_
       intro hH
       refine tk T [11, 12, 13, 14, 15] [14, 17] hS hH #[true, true, true, true, true, true, true, true, true, true, true, true, true, true, true, true] 0 ⟨[(0, Sl a1 l_ c1), (2, Sl a2 lo c2), (3, Sl a3 hi c3), (4, I end_), (13, Pt 14 0), (14, Sl a134 out_133 c135), (16, Pt 17 0), (17, I r154.1), (18, I r154.2), (43, I (if ((hi.length : Nat) : Int) < ((lo.length : Nat) : Int) then ((hi.length : Nat) : Int) else ((lo.length : Nat) : Int))), (44, I x_137)], [(14, (61, [I ((gi l_ (IntKind.i64.wrap (((l_.length : Nat) : Int) - 1))).Line), I ((gi l_ (IntKind.i64.wrap (((l_.length : Nat) : Int) - 1))).At), Z ((gi l_ (IntKind.i64.wrap (((l_.length : Nat) : Int) - 1))).Text)])), (17, (61, [I ((gi l_ (IntKind.i64.wrap (x_137 + 1))).Line), I ((gi l_ (IntKind.i64.wrap (x_137 + 1))).At), Z ((gi l_ (IntKind.i64.wrap (x_137 + 1))).Text)]))]⟩ fun a hS => ?_
       refine drawnDone kr ?_
       clear hD hH
       replace hS := hS.sl ⟨[(0, Sl a1 l_ c1), (2, Sl a2 lo c2), (3, Sl a3 hi c3), (4, I end_), (13, Pt 14 0), (14, Sl a134 out_133 c135), (16, Pt 17 0), (17, I r154.1), (18, I r154.2), (43, I (if ((hi.length : Nat) : Int) < ((lo.length : Nat) : Int) then ((hi.length : Nat) : Int) else ((lo.length : Nat) : Int))), (44, I x_137)], [(14, (61, [I ((gi l_ (IntKind.i64.wrap (((l_.length : Nat) : Int) - 1))).Line), I ((gi l_ (IntKind.i64.wrap (((l_.length : Nat) : Int) - 1))).At), Z ((gi l_ (IntKind.i64.wrap (((l_.length : Nat) : Int) - 1))).Text)])), (17, (61, [I ((gi l_ (IntKind.i64.wrap (x_137 + 1))).Line), I ((gi l_ (IntKind.i64.wrap (x_137 + 1))).At), Z ((gi l_ (IntKind.i64.wrap (x_137 + 1))).Text)]))]⟩
       refine wseq ?_
       refine rP T hS ⟨[(0, Sl a1 l_ c1), (2, Sl a2 lo c2), (3, Sl a3 hi c3), (4, I end_), (13, Pt 14 0), (14, Sl a134 out_133 c135), (16, Pt 17 0), (17, I r154.1), (18, I r154.2), (43, I (if ((hi.length : Nat) : Int) < ((lo.length : Nat) : Int) then ((hi.length : Nat) : Int) else ((lo.length : Nat) : Int))), (44, I x_137), (78, B (r154.2 != 0))], [(14, (61, [I ((gi l_ (IntKind.i64.wrap (((l_.length : Nat) : Int) - 1))).Line), I ((gi l_ (IntKind.i64.wrap (((l_.length : Nat) : Int) - 1))).At), Z ((gi l_ (IntKind.i64.wrap (((l_.length : Nat) : Int) - 1))).Text)])), (17, (61, [I ((gi l_ (IntKind.i64.wrap (x_137 + 1))).Line), I ((gi l_ (IntKind.i64.wrap (x_137 + 1))).At), Z ((gi l_ (IntKind.i64.wrap (x_137 + 1))).Text)]))]⟩ fun a hS => ?_
       refine wcond hS (b := (r154.2 != 0)) kr (fun hb => ?_) (fun hb => ?_)
       ·replace hm := hm.1 hb
        replace hS := hS.sl ⟨[(16, Pt 17 0), (18, I r154.2)], [(17, (61, [I ((gi l_ (IntKind.i64.wrap (x_137 + 1))).Line), I ((gi l_ (IntKind.i64.wrap (x_137 + 1))).At), Z ((gi l_ (IntKind.i64.wrap (x_137 + 1))).Text)]))]⟩
        refine drawnSX [17] mixed hS ?_
        intro w155 χ156 hS hE hD hH
        replace hO := hO.mv hE rfl rfl
        clear hE
        refine tk T [0, 2, 3, 1, 4, 5] [17] hS hH #[true, true, true, true, true, true] 0 ⟨[(10, V (.slice none 0 0)), (11, I ((gi l_ (IntKind.i64.wrap (x_137 + 1))).At)), (12, I r154.2)], [(17, (61, [I ((gi l_ (IntKind.i64.wrap (x_137 + 1))).Line), I ((gi l_ (IntKind.i64.wrap (x_137 + 1))).At), Z ((gi l_ (IntKind.i64.wrap (x_137 + 1))).Text)]))]⟩ fun a hS => ?_
        refine drawnDone kr ?_
        clear hD hH
        replace hS := hS.sl ⟨[(10, V (.slice none 0 0)), (11, I ((gi l_ (IntKind.i64.wrap (x_137 + 1))).At)), (12, I r154.2)], []⟩
        refine wret ?_
        exact fin T hS hO (fun c => c) rfl (r := [.slice none 0 0, .int .i64 ((gi l_ (IntKind.i64.wrap (x_137 + 1))).At), .int .i64 r154.2]) kr (fun χ' hM hC => ⟨([], (gi l_ (IntKind.i64.wrap (x_137 + 1))).At, r154.2), hm, none, 0, rfl, RS.empty _ _ _⟩)
       ·replace hm := hm.2 hb
        refine wskip ?_
        refine region ?_
        refine oP T hS 2 ⟨[(0, Sl a1 l_ c1), (2, Sl a2 lo c2), (3, Sl a3 hi c3), (4, I end_), (13, Pt 14 0), (14, Sl a134 out_133 c135), (43, I (if ((hi.length : Nat) : Int) < ((lo.length : Nat) : Int) then ((hi.length : Nat) : Int) else ((lo.length : Nat) : Int))), (44, I x_137), (82, Sl a134 out_133 c135), (83, I r154.1)], [(14, (61, [I ((gi l_ (IntKind.i64.wrap (((l_.length : Nat) : Int) - 1))).Line), I ((gi l_ (IntKind.i64.wrap (((l_.length : Nat) : Int) - 1))).At), Z ((gi l_ (IntKind.i64.wrap (((l_.length : Nat) : Int) - 1))).Text)]))]⟩ fun a hS => ?_
        refine op1 (lit (E := 3) (col := 0) (T := tI) (vals := [.int .i64 r154.1]) (ys := [r154.1]) T hS kr kr kr kr (by exact ⟨rfl, trivial⟩) rfl kr kr kr kr ?_)
        intro b157 a w158 χ159 hE h160 hN hS
        clear hN
        replace hO := hO.mv hE rfl rfl
        replace h130 := h130.mv hE rfl
        replace h131 := h131.mv hE rfl
        replace h132 := h132.mv hE rfl
        replace h136 := h136.mv hE rfl rfl
        clear hE
        replace h160 := h160.rs0
        obtain ⟨hq, hm⟩ := hm
        obtain ⟨news, hN⟩ := h160.src
        refine op1 (append (E := 3) (T := tI) (col := 1011) (xs := out_133) T hS kr kr kr kr h136 hN kr kr kr kr hq ?_)
        intro a164 c165 a w161 χ162 hE h163 hS
        clear hq hN
        clear h136
        replace hO := hO.mv hE rfl rfl
        replace h130 := h130.mv hE rfl
        replace h131 := h131.mv hE rfl
        replace h132 := h132.mv hE rfl
        replace h160 := h160.mv hE rfl
        clear hE
        refine eP T hS ⟨[(0, Sl a1 l_ c1), (2, Sl a2 lo c2), (3, Sl a3 hi c3), (4, I end_), (13, Pt 14 0), (14, Sl a164 (out_133 ++ [r154.1]) c165), (43, I (if ((hi.length : Nat) : Int) < ((lo.length : Nat) : Int) then ((hi.length : Nat) : Int) else ((lo.length : Nat) : Int))), (44, I x_137)], [(14, (61, [I ((gi l_ (IntKind.i64.wrap (((l_.length : Nat) : Int) - 1))).Line), I ((gi l_ (IntKind.i64.wrap (((l_.length : Nat) : Int) - 1))).At), Z ((gi l_ (IntKind.i64.wrap (((l_.length : Nat) : Int) - 1))).Text)]))]⟩ fun a hS => ?_
        refine region (eP T hS ⟨[(0, Sl a1 l_ c1), (2, Sl a2 lo c2), (3, Sl a3 hi c3), (4, I end_), (13, Pt 14 0), (14, Sl a164 (out_133 ++ [r154.1]) c165), (43, I (if ((hi.length : Nat) : Int) < ((lo.length : Nat) : Int) then ((hi.length : Nat) : Int) else ((lo.length : Nat) : Int))), (44, I (IntKind.i64.wrap (x_137 + 1)))], [(14, (61, [I ((gi l_ (IntKind.i64.wrap (((l_.length : Nat) : Int) - 1))).Line), I ((gi l_ (IntKind.i64.wrap (((l_.length : Nat) : Int) - 1))).At), Z ((gi l_ (IntKind.i64.wrap (((l_.length : Nat) : Int) - 1))).Text)]))]⟩ fun a hS => ?_)
        exact ⟨⟨out_133 ++ [r154.1], IntKind.i64.wrap (x_137 + 1)⟩, ⟨ρ, _, a164, c165, hm.1, hS.sl _, hO, h130, h131, h132, h163⟩, hm.2⟩
     ·replace hm := hm.2 hb
      refine wexit (by rfl) ?_
      exact ⟨ρ, _, out_133, a134, c135, hm, hS.sl _, hO, h130, h136⟩
   ·rintro a w171 ⟨ρ, χ170, out_117, a118, c119, hm, hS, hO, h116, h120⟩
    unfold VC51_J1 at hm
    refine wseq ?_
    refine rP T hS ⟨[(0, Sl a1 l_ c1), (4, I end_), (14, Sl a118 out_117 c119), (92, B (decide (((l_.length : Nat) : Int) > (IntKind.i64.wrap (((out_117.length : Nat) : Int) + 1)))))], []⟩ fun a hS => ?_
    refine wcond hS (b := decide (((l_.length : Nat) : Int) > (IntKind.i64.wrap (((out_117.length : Nat) : Int) + 1)))) kr (fun hb => ?_) (fun hb => ?_)
    ·replace hm := hm.1 hb
     refine drawnSX [] mixed hS ?_
     intro w121 χ122 hS hE hD hH
     replace hO := hO.mv hE rfl rfl
     replace h116 := h116.mv hE rfl
     replace h120 := h120.mv hE rfl rfl
     clear hE
     refine tk T [0, 1, 7, 2, 3] [] hS hH #[true, true, true, true, false, false, false, true, false, false] 5 ⟨[(10, V (.slice none 0 0)), (93, Sl a1 l_ c1), (96, I (IntKind.i64.wrap (((out_117.length : Nat) : Int) + 1)))], []⟩ fun a hS => ?_
     obtain ⟨hq, hm⟩ := hm
     refine dindex (e := 61) (k := .i64) T 4 hS kr kr kr (by rfl) kr hH kr kr h116 kr kr hq.1 hq.2 ?_
     intro A123 a h124 hS
     clear hq
     have h124b := h124.here
     refine dfieldA (off := 1) (fsz := 1) (ft := 3) (TF := tI) (y := (gi l_ (IntKind.i64.wrap (((out_117.length : Nat) : Int) + 1))).At) 5 T hS kr kr kr (by rfl) kr hH kr h124 kr kr kr (fun cs h => Token_Token_f1 h) ?_
     intro A125 a h126 hbl hS
     have h126b := h124b
     rw [← hbl] at h126b
     clear hbl
     refine dload1 T 6 hS kr kr kr (by rfl) kr hH kr h126 h126b rfl kr ?_
     intro v127 a hv hS
     cases hv
     refine tk T [8, 9] [] hS hH #[true, true, true, true, true, true, true, true, true, true] 0 ⟨[(10, V (.slice none 0 0)), (11, I ((gi l_ (IntKind.i64.wrap (((out_117.length : Nat) : Int) + 1))).At)), (12, I 6)], []⟩ fun a hS => ?_
     refine drawnDone kr ?_
     clear hD hH
     replace hS := hS.sl ⟨[(10, V (.slice none 0 0)), (11, I ((gi l_ (IntKind.i64.wrap (((out_117.length : Nat) : Int) + 1))).At)), (12, I 6)], []⟩
     refine wret ?_
     exact fin T hS hO (fun c => c) rfl (r := [.slice none 0 0, .int .i64 ((gi l_ (IntKind.i64.wrap (((out_117.length : Nat) : Int) + 1))).At), .int .i64 6]) kr (fun χ' hM hC => ⟨([], (gi l_ (IntKind.i64.wrap (((out_117.length : Nat) : Int) + 1))).At, 6), hm, none, 0, rfl, RS.empty _ _ _⟩)
    ·replace hm := hm.2 hb
     refine wskip ?_
     refine rP T hS ⟨[(10, Sl a118 out_117 c119), (11, I end_), (12, I 0)], []⟩ fun a hS => ?_
     refine wret ?_
     obtain ⟨χ128, hE, hF⟩ := h120.freeze (by decide)
     replace hS := hS.ev hE (xone_box kr)
     replace hO := hO.mv hE rfl rfl
     have h129 := hF; clear hE hF
     exact fin T hS hO (fun c => c) rfl (r := [.slice a118 out_117.length c119, .int .i64 end_, .int .i64 0]) kr (fun χ' hM hC => ⟨(out_117, end_, 0), hm, a118, c119, rfl, h129.m0 hM⟩)
theorem C51 (k63 : S63) (v : ∀ (l_ : List Token_Token) (word : List UInt8) (lo : List Int) (hi : List Int) (end_ : Int), preNT l_ word lo hi end_ → VC51 l_ word lo hi end_ (fun r => r = objtext_Numbers l_ word lo hi end_)) : S51 := by
 intro w χ l_ word lo hi end_ a1 c1 a2 c2 a3 c3   hp h1 h2 h3
 refine (W51 k63 w χ l_ word lo hi end_ a1 c1 a2 c2 a3 c3   _ (v l_ word lo hi end_ hp) h1 h2 h3).mono ?_
 rintro _ _ _ _ ⟨r, rfl, h⟩
 exact h
/-- slices.Equal[[]replevin/api.Pick,replevin/api.Pick] -/
theorem W24 (w0 : World) (χ0 : Nat → Nat) (s1 : List Api_Pick) (s2 : List Api_Pick) (a1 : Option Addr) (c1 : Nat) (a2 : Option Addr) (c2 : Nat) (Q : Bool → Prop) (hm : VC24 s1 s2 Q) (h1 : RS tApi_Pick w0 χ0 a1 s1 c1) (h2 : RS tApi_Pick w0 χ0 a2 s2 c2) :
  Ret Tryd.prog 24 #[.slice a1 s1.length c1, .slice a2 s2.length c2] xnone w0 χ0 (fun w χ' v => ∃ r, Q r ∧ v = .bool r) := by
 unfold VC24 at hm
 replace hm := hm (h1.sm kr)
 replace hm := hm (h2.sm kr)
 refine enter Tryd.func24 rfl (vals := [.slice a1 s1.length c1, .slice a2 s2.length c2]) kr ?_
 intro ρ a hS hO hM
 replace h1 := h1.m0 hM
 replace h2 := h2.m0 hM
 clear hM
 refine rP T hS ⟨[(0, Sl a1 s1 c1), (1, Sl a2 s2 c2)], []⟩ fun a hS => ?_
 refine wseq ?_
 refine rP T hS ⟨[(0, Sl a1 s1 c1), (1, Sl a2 s2 c2), (10, B (((s1.length : Nat) : Int) != ((s2.length : Nat) : Int)))], []⟩ fun a hS => ?_
 refine wcond hS (b := (((s1.length : Nat) : Int) != ((s2.length : Nat) : Int))) kr (fun hb => ?_) (fun hb => ?_)
 ·replace hm := hm.1 hb
  refine rP T hS ⟨[(4, B false)], []⟩ fun a hS => ?_
  refine wret ?_
  exact fin T hS hO (fun c => c) rfl (r := [.bool false]) kr (fun χ' hM hC => ⟨false, hm, rfl⟩)
 ·replace hm := hm.2 hb
  refine wskip ?_
  refine wcut (fun a w => ∃ (ρ : Nat → Nat) (χ : Nat → Nat), VC24_J1 Q ∧ St Tryd.f24.ntmps ⟨[], []⟩ ρ a w χ ∧ Old w0 χ0 w χ) ?_ ?_
  ·refine rP T hS ⟨[(0, Sl a1 s1 c1), (1, Sl a2 s2 c2), (12, I ((s1.length : Nat) : Int)), (13, I 0)], []⟩ fun a hS => ?_
   refine wblock ?_
   obtain ⟨I1, μ1, hm0, hm⟩ := hm
   refine wloop (σ := Int) (fun s a w => ∃ (ρ : Nat → Nat) (χ : Nat → Nat), I1 s ∧ St Tryd.f24.ntmps ⟨[(0, Sl a1 s1 c1), (1, Sl a2 s2 c2), (12, I ((s1.length : Nat) : Int)), (13, I s)], []⟩ ρ a w χ ∧ Old w0 χ0 w χ ∧ RS tApi_Pick w χ a1 s1 c1 ∧ RS tApi_Pick w χ a2 s2 c2) (fun s => μ1 s) (0) ?_ ?_
   ·exact ⟨ρ, _, hm0, hS.sl _, hO, h1, h2⟩
   ·rintro x_103 a w113 ⟨ρ, χ112, hI, hS, hO, h101, h102⟩
    replace hm := hm x_103 hI
    clear hI hm0
    refine rP T hS ⟨[(0, Sl a1 s1 c1), (1, Sl a2 s2 c2), (12, I ((s1.length : Nat) : Int)), (13, I x_103), (14, B (decide (x_103 < ((s1.length : Nat) : Int))))], []⟩ fun a hS => ?_
    refine wseq ?_
    refine wcond hS (b := decide (x_103 < ((s1.length : Nat) : Int))) kr (fun hb => ?_) (fun hb => ?_)
    ·replace hm := hm.1 hb
     refine wskip ?_
     refine wseq ?_
     refine wblock ?_
     refine rP T hS ⟨[(0, Sl a1 s1 c1), (1, Sl a2 s2 c2), (5, I x_103), (12, I ((s1.length : Nat) : Int)), (13, I x_103)], []⟩ fun a hS => ?_
     refine drawnSX [] mixed hS ?_
     intro w104 χ105 hS hE hD hH
     replace hO := hO.mv hE rfl rfl
     replace h101 := h101.mv hE rfl
     replace h102 := h102.mv hE rfl
     clear hE
     refine tk T [0, 1, 4, 5] [] hS hH #[true, true, false, false, true, true, false, false, false] 5 ⟨[(0, Sl a1 s1 c1), (1, Sl a2 s2 c2), (12, I ((s1.length : Nat) : Int)), (13, I x_103), (16, Sl a1 s1 c1), (17, I x_103), (20, Sl a2 s2 c2), (21, I x_103)], []⟩ fun a hS => ?_
     obtain ⟨hq, hm⟩ := hm
     refine dindex (e := 39) (k := .i64) T 2 hS kr kr kr (by rfl) kr hH kr kr h101 kr kr hq.1 hq.2 ?_
     intro A106 a h107 hS
     clear hq
     have h107b := h107.here
     refine dloadA T 3 hS kr kr kr (by rfl) kr hH kr h107 h107b kr kr ?_
     intro v108 a hv hS
     subst hv
     obtain ⟨hq, hm⟩ := hm
     refine dindex (e := 39) (k := .i64) T 6 hS kr kr kr (by rfl) kr hH kr kr h102 kr kr hq.1 hq.2 ?_
     intro A109 a h110 hS
     clear hq
     have h110b := h110.here
     refine dloadA T 7 hS kr kr kr (by rfl) kr hH kr h110 h110b kr kr ?_
     intro v111 a hv hS
     subst hv
     refine dstructEq (op := .neq) (xs := [.int .i64 ((gi s1 x_103).Oper), .int .i64 ((gi s1 x_103).Result)]) (ys := [.int .i64 ((gi s2 x_103).Oper), .int .i64 ((gi s2 x_103).Result)]) (r := (((gi s1 x_103).Oper) == ((gi s2 x_103).Oper) && (((gi s1 x_103).Result) == ((gi s2 x_103).Result) && true))) (b := (!(((gi s1 x_103).Oper) == ((gi s2 x_103).Oper) && (((gi s1 x_103).Result) == ((gi s2 x_103).Result) && true)))) 8 T hS kr kr kr (by rfl) kr hH kr kr kr kr kr kr ?_
     intro a hS
     refine drawnDone kr ?_
     clear hD hH
     replace hS := hS.sl ⟨[(0, Sl a1 s1 c1), (1, Sl a2 s2 c2), (12, I ((s1.length : Nat) : Int)), (13, I x_103), (24, B (!(((gi s1 x_103).Oper) == ((gi s2 x_103).Oper) && (((gi s1 x_103).Result) == ((gi s2 x_103).Result) && true))))], []⟩
     refine wcond hS (b := (!(((gi s1 x_103).Oper) == ((gi s2 x_103).Oper) && (((gi s1 x_103).Result) == ((gi s2 x_103).Result) && true)))) kr (fun hb => ?_) (fun hb => ?_)
     ·replace hm := hm.1 hb
      refine rP T hS ⟨[(4, B false)], []⟩ fun a hS => ?_
      refine wret ?_
      exact fin T hS hO (fun c => c) rfl (r := [.bool false]) kr (fun χ' hM hC => ⟨false, hm, rfl⟩)
     ·replace hm := hm.2 hb
      refine wskip ?_
      refine region (eP T hS ⟨[(0, Sl a1 s1 c1), (1, Sl a2 s2 c2), (12, I ((s1.length : Nat) : Int)), (13, I (IntKind.i64.wrap (x_103 + 1)))], []⟩ fun a hS => ?_)
      exact ⟨IntKind.i64.wrap (x_103 + 1), ⟨ρ, _, hm.1, hS.sl _, hO, h101, h102⟩, hm.2⟩
    ·replace hm := hm.2 hb
     refine wexit (by rfl) ?_
     exact ⟨ρ, _, hm, hS.sl _, hO⟩
  ·rintro a w115 ⟨ρ, χ114, hm, hS, hO⟩
   unfold VC24_J1 at hm
   refine rP T hS ⟨[(4, B true)], []⟩ fun a hS => ?_
   refine wret ?_
   exact fin T hS hO (fun c => c) rfl (r := [.bool true]) kr (fun χ' hM hC => ⟨true, hm, rfl⟩)
theorem C24 (v : ∀ (s1 : List Api_Pick) (s2 : List Api_Pick), VC24 s1 s2 (fun r => r = slices_Equal_api_Pick_api_Pick s1 s2)) : S24 := by
 intro w χ s1 s2 a1 c1 a2 c2   h1 h2
 refine (W24 w χ s1 s2 a1 c1 a2 c2   _ (v s1 s2) h1 h2).mono ?_
 rintro _ _ _ _ ⟨r, rfl, h⟩
 exact h
/-- replevin/verdict.words -/
theorem W26 (w0 : World) (χ0 : Nat → Nat) (Q : (List (List UInt8)) → Prop) (hm : VC26 Q) :
  Ret Tryd.prog 26 #[] xnone w0 χ0 (fun w χ' v => ∃ r, Q r ∧ ∃ (ra1 : Option Addr) (rc1 : Nat), v = .slice ra1 r.length rc1 ∧ RS tStr w χ' ra1 r rc1) := by
 unfold VC26 at hm
 refine enter Tryd.func26 rfl (vals := []) kr ?_
 intro ρ a hS hO hM
 clear hM
 refine rP T hS ⟨[], []⟩ fun a hS => ?_
 refine regO ?_
 refine op1 (lit (E := 9) (col := 0) (T := tStr) (vals := [.string (bs ([109, 97, 108, 102, 111, 114, 109, 101, 100] : List UInt8)), .string (bs ([116, 111, 111, 108, 97, 114, 103, 101] : List UInt8)), .string (bs ([98, 117, 100, 103, 101, 116, 111, 117, 116] : List UInt8)), .string (bs ([108, 105, 110, 101, 97, 114, 105, 122, 97, 98, 108, 101] : List UInt8)), .string (bs ([110, 111, 116, 108, 105, 110, 101, 97, 114, 105, 122, 97, 98, 108, 101] : List UInt8))]) (ys := [([109, 97, 108, 102, 111, 114, 109, 101, 100] : List UInt8), ([116, 111, 111, 108, 97, 114, 103, 101] : List UInt8), ([98, 117, 100, 103, 101, 116, 111, 117, 116] : List UInt8), ([108, 105, 110, 101, 97, 114, 105, 122, 97, 98, 108, 101] : List UInt8), ([110, 111, 116, 108, 105, 110, 101, 97, 114, 105, 122, 97, 98, 108, 101] : List UInt8)]) T hS kr kr kr kr (by exact ⟨rfl, rfl, rfl, rfl, rfl, trivial⟩) rfl kr kr kr kr ?_)
 intro b101 a w102 χ103 hE h104 hN hS
 clear hN
 replace hO := hO.mv hE rfl rfl
 clear hE
 replace h104 := h104.rs0
 refine eP T hS ⟨[(0, Sl (some ⟨b101, 0, none⟩) [([109, 97, 108, 102, 111, 114, 109, 101, 100] : List UInt8), ([116, 111, 111, 108, 97, 114, 103, 101] : List UInt8), ([98, 117, 100, 103, 101, 116, 111, 117, 116] : List UInt8), ([108, 105, 110, 101, 97, 114, 105, 122, 97, 98, 108, 101] : List UInt8), ([110, 111, 116, 108, 105, 110, 101, 97, 114, 105, 122, 97, 98, 108, 101] : List UInt8)] 5)], []⟩ fun a hS => ?_
 refine wret ?_
 exact fin T hS hO (fun c => c) rfl (r := [.slice (some ⟨b101, 0, none⟩) [([109, 97, 108, 102, 111, 114, 109, 101, 100] : List UInt8), ([116, 111, 111, 108, 97, 114, 103, 101] : List UInt8), ([98, 117, 100, 103, 101, 116, 111, 117, 116] : List UInt8), ([108, 105, 110, 101, 97, 114, 105, 122, 97, 98, 108, 101] : List UInt8), ([110, 111, 116, 108, 105, 110, 101, 97, 114, 105, 122, 97, 98, 108, 101] : List UInt8)].length 5]) kr (fun χ' hM hC => ⟨[([109, 97, 108, 102, 111, 114, 109, 101, 100] : List UInt8), ([116, 111, 111, 108, 97, 114, 103, 101] : List UInt8), ([98, 117, 100, 103, 101, 116, 111, 117, 116] : List UInt8), ([108, 105, 110, 101, 97, 114, 105, 122, 97, 98, 108, 101] : List UInt8), ([110, 111, 116, 108, 105, 110, 101, 97, 114, 105, 122, 97, 98, 108, 101] : List UInt8)], hm, (some ⟨b101, 0, none⟩), 5, rfl, h104.m0 hM⟩)
theorem C26 (v : ∀ (_ : Unit), VC26 (fun r => r = verdict_words)) : S26 := by
 intro w χ     
 refine (W26 w χ     _ (v ())).mono ?_
 rintro _ _ _ _ ⟨r, rfl, h⟩
 exact h
/-- replevin/verdict.Word -/
theorem W12 (k26 : S26) (w0 : World) (χ0 : Nat → Nat) (kind : Int) (Q : (List UInt8) → Prop) (hm : VC12 kind Q) :
  Ret Tryd.prog 12 #[.int .i64 kind] xnone w0 χ0 (fun w χ' v => ∃ r, Q r ∧ v = .string (bs r)) := by
 unfold VC12 at hm
 refine enter Tryd.func12 rfl (vals := [.int .i64 kind]) kr ?_
 intro ρ a hS hO hM
 clear hM
 refine rP T hS ⟨[(0, I kind)], []⟩ fun a hS => ?_
 refine wseq ?_
 refine rP T hS ⟨[(0, I kind), (8, B ((decide (kind < 1)) || (decide (kind > 5))))], []⟩ (sp := [5]) fun a hS => ?_
 refine wcond hS (b := ((decide (kind < 1)) || (decide (kind > 5)))) kr (fun hb => ?_) (fun hb => ?_)
 ·replace hm := hm.1 hb
  refine rP T hS ⟨[(2, Z ([] : List UInt8))], []⟩ fun a hS => ?_
  refine wret ?_
  exact fin T hS hO (fun c => c) rfl (r := [.string (bs ([] : List UInt8))]) kr (fun χ' hM hC => ⟨([] : List UInt8), hm, rfl⟩)
 ·replace hm := hm.2 hb
  refine wskip ?_
  refine regO ?_
  refine op1 (call hS kr kr hb26 kr (fun _ _ => rfl) (k26 _ _) ?_)
  intro v101 a w102 χ103 hE hp hS
  replace hO := hO.mv hE rfl rfl
  clear hE
  obtain ⟨a105, c106, hp, h107⟩ := hp
  obtain ⟨r104, hr⟩ : ∃ r, verdict_words = r := ⟨_, rfl⟩
  replace hm := hm r104 hr
  rw [hr] at hp h107
  clear hr
  subst hp
  replace hm := hm (h107.sm kr)
  refine oP T hS 2 ⟨[(9, Sl a105 r104 c106), (11, I (IntKind.i64.wrap (kind - 1)))], []⟩ fun a hS => ?_
  obtain ⟨hq, hm⟩ := hm
  refine op1 (index (e := 9) (k := .i64) T hS kr kr kr kr h107 kr kr hq.1 hq.2 ?_)
  intro A108 a h109 hS
  clear hq
  refine op1 (load1 T hS kr kr kr h109 rfl kr ?_)
  intro v110 a hv hS
  cases hv
  refine eP T hS ⟨[(2, Z (gi r104 (IntKind.i64.wrap (kind - 1))))], []⟩ fun a hS => ?_
  refine wret ?_
  exact fin T hS hO (fun c => c) rfl (r := [.string (bs (gi r104 (IntKind.i64.wrap (kind - 1))))]) kr (fun χ' hM hC => ⟨(gi r104 (IntKind.i64.wrap (kind - 1))), hm, rfl⟩)
theorem C12 (k26 : S26) (v : ∀ (kind : Int), VC12 kind (fun r => r = verdict_Word kind)) : S12 := by
 intro w χ kind    
 refine (W12 k26 w χ kind    _ (v kind)).mono ?_
 rintro _ _ _ _ ⟨r, rfl, h⟩
 exact h
/-- replevin/verdict.picked$1 -/
theorem W32 (w0 : World) (χ0 : Nat → Nat) (p_ : Api_Pick) (cap1 : List (Int × Int)) (r1 : Nat) (m1 : Nat) (b1 : Nat) (i1 : Nat) (Q : Bool × (List (Int × Int)) → Prop) (hm : VC32 p_ cap1 Q) (h1 : OM kI tI false w0 χ0 m1 r1 cap1) (hc1 : Cell w0 χ0 b1 i1 73 [.map (some r1)]) (hA : Apart [i1, m1]) :
  Ret Tryd.prog 32 #[.agg #[.int .i64 p_.Oper, .int .i64 p_.Result], .pointer (some ⟨b1, 0, none⟩)] (pR [i1, m1]) w0 χ0 (fun w χ' v => ∃ r, Q r ∧ v = .bool r.1 ∧ Cell w χ' b1 i1 73 [.map (some r1)] ∧ OM kI tI false w χ' m1 r1 r.2) := by
 unfold VC32 at hm
 refine enterR Tryd.func32 rfl (f0of [(i1, 901), (m1, 2001)]) (fun id => (bif Nat.beq id 901 then b1 else 0)) (args := [V (.agg #[.int .i64 p_.Oper, .int .i64 p_.Result]), Pt 901 0]) (bxs := [(901, (73, [V (.map (some r1))]))]) kr rfl (BoxesOK.cons kr (hc1.map (f0of_at 0 hA.1 rfl)) BoxesOK.nil) (f0of_0 (fun q hq => (hA.2 q.1 (List.mem_map.2 ⟨q, hq, rfl⟩)).1)) ?_
 intro a hS hO hM
 have hP : Pin [(901, b1)] (fun id => (bif Nat.beq id 901 then b1 else 0)) := by intro q hq; simp at hq; rcases hq with rfl <;> rfl
 generalize (fun id => (bif Nat.beq id 901 then b1 else 0)) = ρ at hS hP
 clear hc1
 replace h1 := h1.map (f := f0of [(i1, 901), (m1, 2001)]) (f0of_at 1 hA.1 rfl) hM
 clear hM
 refine rM T hS ⟨[(1, Pt 901 0), (2, Pt 3 0)], [(3, (39, [I p_.Oper, I p_.Result])), (901, (73, [V (.map (some r1))]))]⟩ fun ρ a w105 χ106 hS hE hr => ?_
 replace hO := hO.mv hE rfl rfl
 replace h1 := h1.mv hE rfl rfl
 replace hP := hP.mv hr kr
 clear hE hr
 refine regO ?_
 refine oP T hS 3 ⟨[(1, Pt 901 0), (2, Pt 3 0), (4, V (.map (some r1))), (6, I p_.Oper)], [(3, (39, [I p_.Oper, I p_.Result])), (901, (73, [V (.map (some r1))]))]⟩ fun a hS => ?_
 refine op1 (mlook kI tI false (zv := .int .i64 0) (z := 0) p_.Oper hS kr kr kr kr Tryd.underlying73 Tryd.underlying3 kr rfl h1 ?_)
 intro v101 a hv hS
 replace hv : tI.R _ _ [v101] _ := hv
 cases hv
 refine oP T hS 1 ⟨[(1, Pt 901 0), (2, Pt 3 0), (4, V (.map (some r1))), (6, I p_.Oper), (8, I (IntKind.i64.wrap (((mget cap1 p_.Oper).getD 0) + 1)))], [(3, (39, [I p_.Oper, I p_.Result])), (901, (73, [V (.map (some r1))]))]⟩ fun a hS => ?_
 refine op1 (mset kI tI false (v := I (IntKind.i64.wrap (((mget cap1 p_.Oper).getD 0) + 1))) (u := IntKind.i64.wrap (((mget cap1 p_.Oper).getD 0) + 1)) p_.Oper hS kr kr kr kr Tryd.underlying73 Tryd.underlying3 kr h1 rfl ?_)
 intro a w102 hE h103 hS
 clear h1
 replace hO := hO.mv hE rfl rfl
 clear hE
 refine doneK ?_
 refine regO ?_
 refine oP T hS 3 ⟨[(2, Pt 3 0), (9, V (.map (some r1))), (11, I p_.Oper)], [(3, (39, [I p_.Oper, I p_.Result])), (901, (73, [V (.map (some r1))]))]⟩ fun a hS => ?_
 refine op1 (mlook kI tI false (zv := .int .i64 0) (z := 0) p_.Oper hS kr kr kr kr Tryd.underlying73 Tryd.underlying3 kr rfl h103 ?_)
 intro v104 a hv hS
 replace hv : tI.R _ _ [v104] _ := hv
 cases hv
 refine eP T hS ⟨[(3, B (((((decide (((mget (mput cap1 p_.Oper (IntKind.i64.wrap (((mget cap1 p_.Oper).getD 0) + 1))) p_.Oper).getD 0) > 1)) || (decide (p_.Oper < 0))) || (decide (p_.Oper ≥ 64))) || (decide (p_.Result < 0))) || (decide (p_.Result > 1000000))))], [(901, (73, [V (.map (some r1))]))]⟩ (sp := [14, 19, 24, 29]) fun a hS => ?_
 refine wret ?_
 exact finR T hS hO (fun c h => f0of_zero kr h) (fun c h => f0of_else (l := [(i1, 901), (m1, 2001)]) h) (f1of [(i1, 901), (m1, 2001)]) rfl (r := [.bool (((((decide (((mget (mput cap1 p_.Oper (IntKind.i64.wrap (((mget cap1 p_.Oper).getD 0) + 1))) p_.Oper).getD 0) > 1)) || (decide (p_.Oper < 0))) || (decide (p_.Oper ≥ 64))) || (decide (p_.Result < 0))) || (decide (p_.Result > 1000000)))]) kr (fun χ' hM hC => ⟨((((((decide (((mget (mput cap1 p_.Oper (IntKind.i64.wrap (((mget cap1 p_.Oper).getD 0) + 1))) p_.Oper).getD 0) > 1)) || (decide (p_.Oper < 0))) || (decide (p_.Oper ≥ 64))) || (decide (p_.Result < 0))) || (decide (p_.Result > 1000000))), mput cap1 p_.Oper (IntKind.i64.wrap (((mget cap1 p_.Oper).getD 0) + 1))), hm, rfl, ((hS.cell (id := 901) (t := 73) (cs := [V (.map (some r1))]) kr).out (f := (f1of [(i1, 901), (m1, 2001)])) hC kr kr (hP.at 0 rfl)), (h103.out (f := (f1of [(i1, 901), (m1, 2001)])) hM hC kr kr)⟩)
theorem C32 (v : ∀ (p_ : Api_Pick) (cap1 : List (Int × Int)), prePk p_ cap1 → VC32 p_ cap1 (fun r => r = verdict_picked_1 p_ cap1)) : S32 := by
 intro w χ p_ cap1 r1 m1  b1 i1 hp h1 hc1 hA
 refine (W32 w χ p_ cap1 r1 m1  b1 i1 _ (v p_ cap1 hp) h1 hc1 hA).mono ?_
 rintro _ _ _ _ ⟨r, rfl, h⟩
 exact h
/-- slices.IndexFunc[[]replevin/api.Pick,replevin/api.Pick] -/
theorem W47_32 (k32 : S32) (w0 : World) (χ0 : Nat → Nat) (s_ : List Api_Pick) (cap1 : List (Int × Int)) (a1 : Option Addr) (c1 : Nat) (r2 : Nat) (m2 : Nat) (b1 : Nat) (i1 : Nat) (Q : Int × (List (Int × Int)) → Prop) (hm : VC47_32 s_ cap1 Q) (h1 : RS tApi_Pick w0 χ0 a1 s_ c1) (h2 : OM kI tI false w0 χ0 m2 r2 cap1) (hc1 : Cell w0 χ0 b1 i1 73 [.map (some r2)]) (hA : Apart [i1, m2]) :
  Ret Tryd.prog 47 #[.slice a1 s_.length c1, .func (.func 32) #[] #[.pointer (some ⟨b1, 0, none⟩)]] (pR [i1, m2]) w0 χ0 (fun w χ' v => ∃ r, Q r ∧ v = .int .i64 r.1 ∧ Cell w χ' b1 i1 73 [.map (some r2)] ∧ OM kI tI false w χ' m2 r2 r.2) := by
 unfold VC47_32 at hm
 replace hm := hm (h1.sm kr)
 refine enterR Tryd.func47 rfl (f0of [(i1, 901), (m2, 2002)]) (fun id => (bif Nat.beq id 901 then b1 else 0)) (args := [Sl a1 s_ c1, .f (.func 32) [] [.p 901 0]]) (bxs := [(901, (73, [V (.map (some r2))]))]) kr rfl (BoxesOK.cons kr (hc1.map (f0of_at 0 hA.1 rfl)) BoxesOK.nil) (f0of_0 (fun q hq => (hA.2 q.1 (List.mem_map.2 ⟨q, hq, rfl⟩)).1)) ?_
 intro a hS hO hM
 have hP : Pin [(901, b1)] (fun id => (bif Nat.beq id 901 then b1 else 0)) := by intro q hq; simp at hq; rcases hq with rfl <;> rfl
 generalize (fun id => (bif Nat.beq id 901 then b1 else 0)) = ρ at hS hP
 clear hc1
 replace h1 := h1.m0 hM
 replace h2 := h2.map (f := f0of [(i1, 901), (m2, 2002)]) (f0of_at 1 hA.1 rfl) hM
 clear hM
 refine rP T hS ⟨[(0, Sl a1 s_ c1), (1, .f (.func 32) [] [.p 901 0])], [(901, (73, [V (.map (some r2))]))]⟩ fun a hS => ?_
 refine wcut (fun a w => ∃ (ρ : Nat → Nat) (χ : Nat → Nat) (x_101 : List (Int × Int)), VC47_32_J1 Q x_101 ∧ St Tryd.f47.ntmps ⟨[], [(901, (73, [V (.map (some r2))]))]⟩ ρ a w χ ∧ OldR (f0of [(i1, 901), (m2, 2002)]) w0 χ0 w χ ∧ Pin [(901, b1)] ρ ∧ OM kI tI false w χ 2002 r2 x_101) ?_ ?_
 ·refine rP T hS ⟨[(0, Sl a1 s_ c1), (1, .f (.func 32) [] [.p 901 0]), (7, I ((s_.length : Nat) : Int)), (8, I 0)], [(901, (73, [V (.map (some r2))]))]⟩ fun a hS => ?_
  refine wblock ?_
  obtain ⟨I1, μ1, hm0, hm⟩ := hm
  refine wloop (σ := Int × (List (Int × Int))) (fun s a w => ∃ (ρ : Nat → Nat) (χ : Nat → Nat), I1 s.1 s.2 ∧ St Tryd.f47.ntmps ⟨[(0, Sl a1 s_ c1), (1, .f (.func 32) [] [.p 901 0]), (7, I ((s_.length : Nat) : Int)), (8, I s.1)], [(901, (73, [V (.map (some r2))]))]⟩ ρ a w χ ∧ OldR (f0of [(i1, 901), (m2, 2002)]) w0 χ0 w χ ∧ Pin [(901, b1)] ρ ∧ RS tApi_Pick w χ a1 s_ c1 ∧ OM kI tI false w χ 2002 r2 s.2) (fun s => μ1 s.1 s.2) (⟨0, cap1⟩) ?_ ?_
  ·exact ⟨ρ, _, hm0, hS.sl _, hO, hP, h1, h2⟩
  ·rintro ⟨x_104, x_105⟩ a w117 ⟨ρ, χ116, hI, hS, hO, hP, h103, h106⟩
   replace hm := hm x_104 x_105 hI
   clear hI hm0
   refine rP T hS ⟨[(0, Sl a1 s_ c1), (1, .f (.func 32) [] [.p 901 0]), (7, I ((s_.length : Nat) : Int)), (8, I x_104), (9, B (decide (x_104 < ((s_.length : Nat) : Int))))], [(901, (73, [V (.map (some r2))]))]⟩ fun a hS => ?_
   refine wseq ?_
   refine wcond hS (b := decide (x_104 < ((s_.length : Nat) : Int))) kr (fun hb => ?_) (fun hb => ?_)
   ·replace hm := hm.1 hb
    refine wskip ?_
    refine wseq ?_
    refine wblock ?_
    refine rP T hS ⟨[(0, Sl a1 s_ c1), (1, .f (.func 32) [] [.p 901 0]), (5, I x_104), (7, I ((s_.length : Nat) : Int)), (8, I x_104)], [(901, (73, [V (.map (some r2))]))]⟩ fun a hS => ?_
    refine regO ?_
    refine oP T hS 3 ⟨[(0, Sl a1 s_ c1), (1, .f (.func 32) [] [.p 901 0]), (5, I x_104), (7, I ((s_.length : Nat) : Int)), (8, I x_104), (11, .f (.func 32) [] [.p 901 0]), (12, Sl a1 s_ c1), (13, I x_104)], [(901, (73, [V (.map (some r2))]))]⟩ fun a hS => ?_
    obtain ⟨hq, hm⟩ := hm
    refine op1 (index (e := 39) (k := .i64) T hS kr kr kr kr h103 kr kr hq.1 hq.2 ?_)
    intro A107 a h108 hS
    clear hq
    refine op1 (loadA T hS kr kr kr h108 kr kr ?_)
    intro v109 a hv hS
    subst hv
    obtain ⟨hq, hm⟩ := hm
    refine op1 (callCR (fi := []) (cp := [.p 901 0]) hS kr kr hb32 kr kr (k32 _ _ (gi s_ x_104) x_105 r2 2002 (ρ 901) 901 hq h106 (hS.cell (id := 901) (t := 73) (cs := [V (.map (some r2))]) kr) ⟨by decide, by decide⟩) ?_)
    intro v110 a w111 χ112 hE hp hS
    clear hq
    clear h106
    replace hO := hO.mv hE rfl rfl
    replace h103 := h103.mv hE rfl
    replace h108 := h108.mv hE rfl
    clear hE
    obtain ⟨hp, hc115, h114⟩ := hp
    obtain ⟨r113, hr⟩ : ∃ r, verdict_picked_1 (gi s_ x_104) x_105 = r := ⟨_, rfl⟩
    replace hm := hm r113 hr
    rw [hr] at hp h114
    clear hr
    subst hp
    replace hS := hS.addbox (id := 901) (t := 73) (cs := [V (.map (some r2))]) kr hc115
    clear hc115
    refine doneK ?_
    refine wcond hS (b := r113.1) kr (fun hb => ?_) (fun hb => ?_)
    ·replace hm := hm.1 hb
     refine rP T hS ⟨[(4, I x_104)], [(901, (73, [V (.map (some r2))]))]⟩ fun a hS => ?_
     refine wret ?_
     exact finR T hS hO (fun c h => f0of_zero kr h) (fun c h => f0of_else (l := [(i1, 901), (m2, 2002)]) h) (f1of [(i1, 901), (m2, 2002)]) rfl (r := [.int .i64 x_104]) kr (fun χ' hM hC => ⟨(x_104, r113.2), hm, rfl, ((hS.cell (id := 901) (t := 73) (cs := [V (.map (some r2))]) kr).out (f := (f1of [(i1, 901), (m2, 2002)])) hC kr kr (hP.at 0 rfl)), (h114.out (f := (f1of [(i1, 901), (m2, 2002)])) hM hC kr kr)⟩)
    ·replace hm := hm.2 hb
     refine wskip ?_
     refine region (eP T hS ⟨[(0, Sl a1 s_ c1), (1, .f (.func 32) [] [.p 901 0]), (7, I ((s_.length : Nat) : Int)), (8, I (IntKind.i64.wrap (x_104 + 1)))], [(901, (73, [V (.map (some r2))]))]⟩ fun a hS => ?_)
     exact ⟨⟨IntKind.i64.wrap (x_104 + 1), r113.2⟩, ⟨ρ, _, hm.1, hS.sl _, hO, hP, h103, h114⟩, hm.2⟩
   ·replace hm := hm.2 hb
    refine wexit (by rfl) ?_
    exact ⟨ρ, _, x_105, hm, hS.sl _, hO, hP, h106⟩
 ·rintro a w119 ⟨ρ, χ118, x_101, hm, hS, hO, hP, h102⟩
  unfold VC47_32_J1 at hm
  refine rP T hS ⟨[(4, I (-1))], [(901, (73, [V (.map (some r2))]))]⟩ fun a hS => ?_
  refine wret ?_
  exact finR T hS hO (fun c h => f0of_zero kr h) (fun c h => f0of_else (l := [(i1, 901), (m2, 2002)]) h) (f1of [(i1, 901), (m2, 2002)]) rfl (r := [.int .i64 (-1)]) kr (fun χ' hM hC => ⟨((-1), x_101), hm, rfl, ((hS.cell (id := 901) (t := 73) (cs := [V (.map (some r2))]) kr).out (f := (f1of [(i1, 901), (m2, 2002)])) hC kr kr (hP.at 0 rfl)), (h102.out (f := (f1of [(i1, 901), (m2, 2002)])) hM hC kr kr)⟩)
theorem C47_32 (k32 : S32) (v : ∀ (s_ : List Api_Pick) (cap1 : List (Int × Int)), prePkI s_ cap1 → VC47_32 s_ cap1 (fun r => r = slices_IndexFunc_api_Pick_api_Pick_verdict_picked_1 s_ cap1)) : S47_32 := by
 intro w χ s_ cap1 a1 c1 r2 m2  b1 i1 hp h1 h2 hc1 hA
 refine (W47_32 k32 w χ s_ cap1 a1 c1 r2 m2  b1 i1 _ (v s_ cap1 hp) h1 h2 hc1 hA).mono ?_
 rintro _ _ _ _ ⟨r, rfl, h⟩
 exact h
/-- slices.ContainsFunc[[]replevin/api.Pick,replevin/api.Pick] -/
theorem W33_32 (k47_32 : S47_32) (w0 : World) (χ0 : Nat → Nat) (s_ : List Api_Pick) (cap1 : List (Int × Int)) (a1 : Option Addr) (c1 : Nat) (r2 : Nat) (m2 : Nat) (b1 : Nat) (i1 : Nat) (Q : Bool × (List (Int × Int)) → Prop) (hm : VC33_32 s_ cap1 Q) (h1 : RS tApi_Pick w0 χ0 a1 s_ c1) (h2 : OM kI tI false w0 χ0 m2 r2 cap1) (hc1 : Cell w0 χ0 b1 i1 73 [.map (some r2)]) (hA : Apart [i1, m2]) :
  Ret Tryd.prog 33 #[.slice a1 s_.length c1, .func (.func 32) #[] #[.pointer (some ⟨b1, 0, none⟩)]] (pR [i1, m2]) w0 χ0 (fun w χ' v => ∃ r, Q r ∧ v = .bool r.1 ∧ Cell w χ' b1 i1 73 [.map (some r2)] ∧ OM kI tI false w χ' m2 r2 r.2) := by
 unfold VC33_32 at hm
 replace hm := hm (h1.sm kr)
 refine enterR Tryd.func33 rfl (f0of [(i1, 901), (m2, 2002)]) (fun id => (bif Nat.beq id 901 then b1 else 0)) (args := [Sl a1 s_ c1, .f (.func 32) [] [.p 901 0]]) (bxs := [(901, (73, [V (.map (some r2))]))]) kr rfl (BoxesOK.cons kr (hc1.map (f0of_at 0 hA.1 rfl)) BoxesOK.nil) (f0of_0 (fun q hq => (hA.2 q.1 (List.mem_map.2 ⟨q, hq, rfl⟩)).1)) ?_
 intro a hS hO hM
 have hP : Pin [(901, b1)] (fun id => (bif Nat.beq id 901 then b1 else 0)) := by intro q hq; simp at hq; rcases hq with rfl <;> rfl
 generalize (fun id => (bif Nat.beq id 901 then b1 else 0)) = ρ at hS hP
 clear hc1
 replace h1 := h1.m0 hM
 replace h2 := h2.map (f := f0of [(i1, 901), (m2, 2002)]) (f0of_at 1 hA.1 rfl) hM
 clear hM
 refine rP T hS ⟨[(0, Sl a1 s_ c1), (1, .f (.func 32) [] [.p 901 0])], [(901, (73, [V (.map (some r2))]))]⟩ fun a hS => ?_
 refine regO ?_
 refine oP T hS 2 ⟨[(5, Sl a1 s_ c1), (6, .f (.func 32) [] [.p 901 0])], [(901, (73, [V (.map (some r2))]))]⟩ fun a hS => ?_
 obtain ⟨hq, hm⟩ := hm
 refine op1 (callR hS kr kr hb47 kr (k47_32 _ _ s_ cap1 a1 c1 r2 2002 (ρ 901) 901 hq h1 h2 (hS.cell (id := 901) (t := 73) (cs := [V (.map (some r2))]) kr) ⟨by decide, by decide⟩) ?_)
 intro v101 a w102 χ103 hE hp hS
 clear hq
 clear h2
 replace hO := hO.mv hE rfl rfl
 replace h1 := h1.mv hE rfl
 clear hE
 obtain ⟨hp, hc106, h105⟩ := hp
 obtain ⟨r104, hr⟩ : ∃ r, slices_IndexFunc_api_Pick_api_Pick_verdict_picked_1 s_ cap1 = r := ⟨_, rfl⟩
 replace hm := hm r104 hr
 rw [hr] at hp h105
 clear hr
 subst hp
 replace hS := hS.addbox (id := 901) (t := 73) (cs := [V (.map (some r2))]) kr hc106
 clear hc106
 refine eP T hS ⟨[(4, B (decide (r104.1 ≥ 0)))], [(901, (73, [V (.map (some r2))]))]⟩ fun a hS => ?_
 refine wret ?_
 exact finR T hS hO (fun c h => f0of_zero kr h) (fun c h => f0of_else (l := [(i1, 901), (m2, 2002)]) h) (f1of [(i1, 901), (m2, 2002)]) rfl (r := [.bool (decide (r104.1 ≥ 0))]) kr (fun χ' hM hC => ⟨(decide (r104.1 ≥ 0), r104.2), hm, rfl, ((hS.cell (id := 901) (t := 73) (cs := [V (.map (some r2))]) kr).out (f := (f1of [(i1, 901), (m2, 2002)])) hC kr kr (hP.at 0 rfl)), (h105.out (f := (f1of [(i1, 901), (m2, 2002)])) hM hC kr kr)⟩)
theorem C33_32 (k47_32 : S47_32) (v : ∀ (s_ : List Api_Pick) (cap1 : List (Int × Int)), prePkI s_ cap1 → VC33_32 s_ cap1 (fun r => r = slices_ContainsFunc_api_Pick_api_Pick_verdict_picked_1 s_ cap1)) : S33_32 := by
 intro w χ s_ cap1 a1 c1 r2 m2  b1 i1 hp h1 h2 hc1 hA
 refine (W33_32 k47_32 w χ s_ cap1 a1 c1 r2 m2  b1 i1 _ (v s_ cap1 hp) h1 h2 hc1 hA).mono ?_
 rintro _ _ _ _ ⟨r, rfl, h⟩
 exact h
/-- replevin/verdict.picked -/
theorem W17 (k33_32 : S33_32) (w0 : World) (χ0 : Nat → Nat) (l_ : List Api_Pick) (a1 : Option Addr) (c1 : Nat) (Q : Bool → Prop) (hm : VC17 l_ Q) (h1 : RS tApi_Pick w0 χ0 a1 l_ c1) :
  Ret Tryd.prog 17 #[.slice a1 l_.length c1] xnone w0 χ0 (fun w χ' v => ∃ r, Q r ∧ v = .bool r) := by
 unfold VC17 at hm
 replace hm := hm (h1.sm kr)
 refine enter Tryd.func17 rfl (vals := [.slice a1 l_.length c1]) kr ?_
 intro ρ a hS hO hM
 replace h1 := h1.m0 hM
 clear hM
 refine rP T hS ⟨[(0, Sl a1 l_ c1)], []⟩ fun a hS => ?_
 refine regO ?_
 refine op1 (mkmap kI tI false 1006 hS kr kr ?_)
 intro r101 a w102 χ103 hE h104 hS
 replace hO := hO.mv hE rfl rfl
 replace h1 := h1.mv hE rfl
 clear hE
 refine eM T hS ⟨[(0, Sl a1 l_ c1), (3, Pt 4 0)], [(4, (73, [V (.map (some r101))]))]⟩ fun ρ a w111 χ112 hS hE hr => ?_
 replace hO := hO.mv hE rfl rfl
 replace h1 := h1.mv hE rfl
 replace h104 := h104.mv hE rfl rfl
 clear hE hr
 refine rP T hS ⟨[(0, Sl a1 l_ c1), (4, .f (.func 32) [] [.p 4 0])], [(4, (73, [V (.map (some r101))]))]⟩ fun a hS => ?_
 refine regO ?_
 refine oP T hS 4 ⟨[(0, Sl a1 l_ c1), (4, .f (.func 32) [] [.p 4 0]), (10, B (decide (((l_.length : Nat) : Int) ≤ 64)))], [(4, (73, [V (.map (some r101))]))]⟩ fun a hS => ?_
 rcases Bool.eq_false_or_eq_true (decide (((l_.length : Nat) : Int) ≤ 64)) with hb | hb
 ·replace hS := hS.lit (t := 10) kr hb
  replace hm := hm.1 hb
  refine oP T hS 2 ⟨[(10, B true), (11, Sl a1 l_ c1), (12, .f (.func 32) [] [.p 4 0])], [(4, (73, [V (.map (some r101))]))]⟩ fun a hS => ?_
  obtain ⟨hq, hm⟩ := hm
  refine op1 (callR hS kr kr hb33 kr (k33_32 _ _ l_ ([] : List (Int × Int)) a1 c1 r101 1006 (ρ 4) 4 hq h1 h104 (hS.cell (id := 4) (t := 73) (cs := [V (.map (some r101))]) kr) ⟨by decide, by decide⟩) ?_)
  intro v105 a w106 χ107 hE hp hS
  clear hq
  clear h104
  replace hO := hO.mv hE rfl rfl
  replace h1 := h1.mv hE rfl
  clear hE
  obtain ⟨hp, hc110, h109⟩ := hp
  obtain ⟨r108, hr⟩ : ∃ r, slices_ContainsFunc_api_Pick_api_Pick_verdict_picked_1 l_ ([] : List (Int × Int)) = r := ⟨_, rfl⟩
  replace hm := hm r108 hr
  rw [hr] at hp h109
  clear hr
  subst hp
  replace hS := hS.addbox (id := 4) (t := 73) (cs := [V (.map (some r101))]) kr hc110
  clear hc110
  refine eP T hS ⟨[(2, B (!r108.1))], []⟩ fun a hS => ?_
  refine wret ?_
  exact fin T hS hO (fun c => c) rfl (r := [.bool (!r108.1)]) kr (fun χ' hM hC => ⟨(!r108.1), hm, rfl⟩)
 ·replace hS := hS.lit (t := 10) kr hb
  replace hm := hm.2 hb
  refine eP T hS ⟨[(2, B false)], []⟩ fun a hS => ?_
  refine wret ?_
  exact fin T hS hO (fun c => c) rfl (r := [.bool false]) kr (fun χ' hM hC => ⟨false, hm, rfl⟩)
theorem C17 (k33_32 : S33_32) (v : ∀ (l_ : List Api_Pick), VC17 l_ (fun r => r = verdict_picked l_)) : S17 := by
 intro w χ l_ a1 c1   h1
 refine (W17 k33_32 w χ l_ a1 c1   _ (v l_) h1).mono ?_
 rintro _ _ _ _ ⟨r, rfl, h⟩
 exact h
/-- replevin/verdict.placed -/
theorem W16 (w0 : World) (χ0 : Nat → Nat) (v_ : Api_Verdict) (a1 : Option Addr) (c1 : Nat) (a2 : Option Addr) (c2 : Nat) (Q : Bool → Prop) (hm : VC16 v_ Q) (h1 : RS tApi_Pick w0 χ0 a1 v_.Picks c1) (h2 : RS tApi_Step w0 χ0 a2 v_.Proof c2) :
  Ret Tryd.prog 16 #[.agg #[.int .i64 v_.Kind, .int .i64 v_.At, .int .i64 v_.Err, .slice a1 v_.Picks.length c1, .slice a2 v_.Proof.length c2]] xnone w0 χ0 (fun w χ' v => ∃ r, Q r ∧ v = .bool r) := by
 unfold VC16 at hm
 replace hm := hm (h1.sm kr)
 replace hm := hm (h2.sm kr)
 refine enter Tryd.func16 rfl (vals := [.agg #[.int .i64 v_.Kind, .int .i64 v_.At, .int .i64 v_.Err, .slice a1 v_.Picks.length c1, .slice a2 v_.Proof.length c2]]) kr ?_
 intro ρ a hS hO hM
 replace h1 := h1.m0 hM
 replace h2 := h2.m0 hM
 clear hM
 refine rM T hS ⟨[(1, Pt 2 0)], [(2, (26, [I v_.Kind, I v_.At, I v_.Err, Sl a1 v_.Picks c1, Sl a2 v_.Proof c2]))]⟩ fun ρ a w101 χ102 hS hE hr => ?_
 replace hO := hO.mv hE rfl rfl
 replace h1 := h1.mv hE rfl
 replace h2 := h2.mv hE rfl
 clear hE hr
 refine wseq ?_
 refine rP T hS ⟨[(1, Pt 2 0), (5, B (v_.Kind == 1))], [(2, (26, [I v_.Kind, I v_.At, I v_.Err, Sl a1 v_.Picks c1, Sl a2 v_.Proof c2]))]⟩ fun a hS => ?_
 refine wcond hS (b := (v_.Kind == 1)) kr (fun hb => ?_) (fun hb => ?_)
 ·replace hm := hm.1 hb
  refine rP T hS ⟨[(2, B ((((decide (v_.At ≥ 0)) && (decide (v_.At ≤ 1000000))) && (decide (v_.Err ≥ 1))) && (decide (v_.Err ≤ 99))))], []⟩ (sp := [9, 14, 19]) fun a hS => ?_
  refine wret ?_
  exact fin T hS hO (fun c => c) rfl (r := [.bool ((((decide (v_.At ≥ 0)) && (decide (v_.At ≤ 1000000))) && (decide (v_.Err ≥ 1))) && (decide (v_.Err ≤ 99)))]) kr (fun χ' hM hC => ⟨((((decide (v_.At ≥ 0)) && (decide (v_.At ≤ 1000000))) && (decide (v_.Err ≥ 1))) && (decide (v_.Err ≤ 99))), hm, rfl⟩)
 ·replace hm := hm.2 hb
  refine wskip ?_
  refine rP T hS ⟨[(2, B ((v_.At == 0) && (v_.Err == 0)))], []⟩ (sp := [27]) fun a hS => ?_
  refine wret ?_
  exact fin T hS hO (fun c => c) rfl (r := [.bool ((v_.At == 0) && (v_.Err == 0))]) kr (fun χ' hM hC => ⟨((v_.At == 0) && (v_.Err == 0)), hm, rfl⟩)
theorem C16 (v : ∀ (v_ : Api_Verdict), VC16 v_ (fun r => r = verdict_placed v_)) : S16 := by
 intro w χ v_ a1 c1 a2 c2   h1 h2
 refine (W16 w χ v_ a1 c1 a2 c2   _ (v v_) h1 h2).mono ?_
 rintro _ _ _ _ ⟨r, rfl, h⟩
 exact h
/-- replevin/verdict.Check -/
theorem W8 (k12 : S12) (k15 : S15) (k16 : S16) (k17 : S17) (w0 : World) (χ0 : Nat → Nat) (v_ : Api_Verdict) (a1 : Option Addr) (c1 : Nat) (a2 : Option Addr) (c2 : Nat) (Q : Int → Prop) (hm : VC8 v_ Q) (h1 : RS tApi_Pick w0 χ0 a1 v_.Picks c1) (h2 : RS tApi_Step w0 χ0 a2 v_.Proof c2) :
  Ret Tryd.prog 8 #[.agg #[.int .i64 v_.Kind, .int .i64 v_.At, .int .i64 v_.Err, .slice a1 v_.Picks.length c1, .slice a2 v_.Proof.length c2]] xnone w0 χ0 (fun w χ' v => ∃ r, Q r ∧ v = .int .i64 r) := by
 unfold VC8 at hm
 replace hm := hm (h1.sm kr)
 replace hm := hm (h2.sm kr)
 refine enter Tryd.func8 rfl (vals := [.agg #[.int .i64 v_.Kind, .int .i64 v_.At, .int .i64 v_.Err, .slice a1 v_.Picks.length c1, .slice a2 v_.Proof.length c2]]) kr ?_
 intro ρ a hS hO hM
 replace h1 := h1.m0 hM
 replace h2 := h2.m0 hM
 clear hM
 refine rM T hS ⟨[(1, Pt 2 0)], [(2, (26, [I v_.Kind, I v_.At, I v_.Err, Sl a1 v_.Picks c1, Sl a2 v_.Proof c2]))]⟩ fun ρ a w122 χ123 hS hE hr => ?_
 replace hO := hO.mv hE rfl rfl
 replace h1 := h1.mv hE rfl
 replace h2 := h2.mv hE rfl
 clear hE hr
 refine wseq ?_
 refine regO ?_
 refine oP T hS 2 ⟨[(1, Pt 2 0), (7, I v_.Kind)], [(2, (26, [I v_.Kind, I v_.At, I v_.Err, Sl a1 v_.Picks c1, Sl a2 v_.Proof c2]))]⟩ fun a hS => ?_
 refine op1 (call hS kr kr hb12 kr (fun _ _ => rfl) (k12 _ _ v_.Kind) ?_)
 intro v101 a w102 χ103 hE hp hS
 replace hO := hO.mv hE rfl rfl
 replace h1 := h1.mv hE rfl
 replace h2 := h2.mv hE rfl
 clear hE
 obtain ⟨r104, hr⟩ : ∃ r, verdict_Word v_.Kind = r := ⟨_, rfl⟩
 replace hm := hm r104 hr
 rw [hr] at hp
 clear hr
 subst hp
 refine eP T hS ⟨[(1, Pt 2 0), (9, B (r104 == ([] : List UInt8)))], [(2, (26, [I v_.Kind, I v_.At, I v_.Err, Sl a1 v_.Picks c1, Sl a2 v_.Proof c2]))]⟩ fun a hS => ?_
 refine wcond hS (b := (r104 == ([] : List UInt8))) kr (fun hb => ?_) (fun hb => ?_)
 ·replace hm := hm.1 hb
  refine rP T hS ⟨[(2, I 31)], []⟩ fun a hS => ?_
  refine wret ?_
  exact fin T hS hO (fun c => c) rfl (r := [.int .i64 31]) kr (fun χ' hM hC => ⟨31, hm, rfl⟩)
 ·replace hm := hm.2 hb
  refine wskip ?_
  refine regO ?_
  refine oP T hS 2 ⟨[(1, Pt 2 0), (12, Sl a2 v_.Proof c2)], [(2, (26, [I v_.Kind, I v_.At, I v_.Err, Sl a1 v_.Picks c1, Sl a2 v_.Proof c2]))]⟩ fun a hS => ?_
  refine op1 (call hS kr kr hb15 kr (fun _ _ => rfl) (k15 _ _ v_.Proof a2 c2 h2) ?_)
  intro v105 a w106 χ107 hE hp hS
  replace hO := hO.mv hE rfl rfl
  replace h1 := h1.mv hE rfl
  replace h2 := h2.mv hE rfl
  clear hE
  obtain ⟨r108, hr⟩ : ∃ r, proof_Check v_.Proof = r := ⟨_, rfl⟩
  replace hm := hm r108 hr
  rw [hr] at hp
  clear hr
  subst hp
  refine eP T hS ⟨[(1, Pt 2 0), (4, I r108.2)], [(2, (26, [I v_.Kind, I v_.At, I v_.Err, Sl a1 v_.Picks c1, Sl a2 v_.Proof c2]))]⟩ fun a hS => ?_
  refine wcut (fun a w => ∃ (ρ : Nat → Nat) (χ : Nat → Nat) (fine_109 : Bool), VC8_J1 v_ Q fine_109 ∧ St Tryd.f8.ntmps ⟨[(1, Pt 2 0), (5, B fine_109)], [(2, (26, [I v_.Kind, I v_.At, I v_.Err, Sl a1 v_.Picks c1, Sl a2 v_.Proof c2]))]⟩ ρ a w χ ∧ Old w0 χ0 w χ ∧ RS tApi_Pick w χ a1 v_.Picks c1 ∧ RS tApi_Step w χ a2 v_.Proof c2) ?_ ?_
  ·refine region ?_
   refine oP T hS 1 ⟨[(1, Pt 2 0), (4, I r108.2), (16, V (.agg #[.int .i64 v_.Kind, .int .i64 v_.At, .int .i64 v_.Err, .slice a1 v_.Picks.length c1, .slice a2 v_.Proof.length c2]))], [(2, (26, [I v_.Kind, I v_.At, I v_.Err, Sl a1 v_.Picks c1, Sl a2 v_.Proof c2]))]⟩ fun a hS => ?_
   refine op1 (call hS kr kr hb16 kr (fun _ _ => rfl) (k16 _ _ v_ a1 c1 a2 c2 h1 h2) ?_)
   intro v112 a w113 χ114 hE hp hS
   replace hO := hO.mv hE rfl rfl
   replace h1 := h1.mv hE rfl
   replace h2 := h2.mv hE rfl
   clear hE
   obtain ⟨r115, hr⟩ : ∃ r, verdict_placed v_ = r := ⟨_, rfl⟩
   replace hm := hm r115 hr
   rw [hr] at hp
   clear hr
   subst hp
   refine oP T hS 1 ⟨[(1, Pt 2 0), (4, I r108.2), (18, B r115)], [(2, (26, [I v_.Kind, I v_.At, I v_.Err, Sl a1 v_.Picks c1, Sl a2 v_.Proof c2]))]⟩ fun a hS => ?_
   rcases Bool.eq_false_or_eq_true r115 with hb | hb
   ·replace hS := hS.lit (t := 18) kr hb
    replace hm := hm.1 hb
    refine oP T hS 2 ⟨[(1, Pt 2 0), (4, I r108.2), (18, B true), (20, Sl a1 v_.Picks c1)], [(2, (26, [I v_.Kind, I v_.At, I v_.Err, Sl a1 v_.Picks c1, Sl a2 v_.Proof c2]))]⟩ fun a hS => ?_
    refine op1 (call hS kr kr hb17 kr (fun _ _ => rfl) (k17 _ _ v_.Picks a1 c1 h1) ?_)
    intro v116 a w117 χ118 hE hp hS
    replace hO := hO.mv hE rfl rfl
    replace h1 := h1.mv hE rfl
    replace h2 := h2.mv hE rfl
    clear hE
    obtain ⟨r119, hr⟩ : ∃ r, verdict_picked v_.Picks = r := ⟨_, rfl⟩
    replace hm := hm r119 hr
    rw [hr] at hp
    clear hr
    subst hp
    refine eP T hS ⟨[(1, Pt 2 0), (5, B (r119 && (r108.2 == 0)))], [(2, (26, [I v_.Kind, I v_.At, I v_.Err, Sl a1 v_.Picks c1, Sl a2 v_.Proof c2]))]⟩ (sp := [23]) fun a hS => ?_
    exact ⟨ρ, _, (r119 && (r108.2 == 0)), hm, hS.sl _, hO, h1, h2⟩
   ·replace hS := hS.lit (t := 18) kr hb
    replace hm := hm.2 hb
    refine eP T hS ⟨[(1, Pt 2 0), (5, B false)], [(2, (26, [I v_.Kind, I v_.At, I v_.Err, Sl a1 v_.Picks c1, Sl a2 v_.Proof c2]))]⟩ fun a hS => ?_
    exact ⟨ρ, _, false, hm, hS.sl _, hO, h1, h2⟩
  ·rintro a w121 ⟨ρ, χ120, fine_109, hm, hS, hO, h110, h111⟩
   unfold VC8_J1 at hm
   refine rP T hS ⟨[(1, Pt 2 0), (5, B (fine_109 && ((v_.Kind == 4) || (((v_.Picks.length : Nat) : Int) == 0))))], [(2, (26, [I v_.Kind, I v_.At, I v_.Err, Sl a1 v_.Picks c1, Sl a2 v_.Proof c2]))]⟩ (sp := [28, 32]) fun a hS => ?_
   refine rP T hS ⟨[(5, B ((fine_109 && ((v_.Kind == 4) || (((v_.Picks.length : Nat) : Int) == 0))) && ((v_.Kind == 5) || (((v_.Proof.length : Nat) : Int) == 0))))], []⟩ (sp := [40, 44]) fun a hS => ?_
   refine wseq ?_
   refine rP T hS ⟨[(52, B (!((fine_109 && ((v_.Kind == 4) || (((v_.Picks.length : Nat) : Int) == 0))) && ((v_.Kind == 5) || (((v_.Proof.length : Nat) : Int) == 0)))))], []⟩ fun a hS => ?_
   refine wcond hS (b := (!((fine_109 && ((v_.Kind == 4) || (((v_.Picks.length : Nat) : Int) == 0))) && ((v_.Kind == 5) || (((v_.Proof.length : Nat) : Int) == 0))))) kr (fun hb => ?_) (fun hb => ?_)
   ·replace hm := hm.1 hb
    refine rP T hS ⟨[(2, I 2)], []⟩ fun a hS => ?_
    refine wret ?_
    exact fin T hS hO (fun c => c) rfl (r := [.int .i64 2]) kr (fun χ' hM hC => ⟨2, hm, rfl⟩)
   ·replace hm := hm.2 hb
    refine wskip ?_
    refine rP T hS ⟨[(2, I 0)], []⟩ fun a hS => ?_
    refine wret ?_
    exact fin T hS hO (fun c => c) rfl (r := [.int .i64 0]) kr (fun χ' hM hC => ⟨0, hm, rfl⟩)
theorem C8 (k12 : S12) (k15 : S15) (k16 : S16) (k17 : S17) (v : ∀ (v_ : Api_Verdict), VC8 v_ (fun r => r = verdict_Check v_)) : S8 := by
 intro w χ v_ a1 c1 a2 c2   h1 h2
 refine (W8 k12 k15 k16 k17 w χ v_ a1 c1 a2 c2   _ (v v_) h1 h2).mono ?_
 rintro _ _ _ _ ⟨r, rfl, h⟩
 exact h
/-- replevin/verdict.Same -/
theorem W10 (k24 : S24) (k25 : S25) (w0 : World) (χ0 : Nat → Nat) (a_ : Api_Verdict) (b_ : Api_Verdict) (a1 : Option Addr) (c1 : Nat) (a2 : Option Addr) (c2 : Nat) (a3 : Option Addr) (c3 : Nat) (a4 : Option Addr) (c4 : Nat) (Q : Bool → Prop) (hm : VC10 a_ b_ Q) (h1 : RS tApi_Pick w0 χ0 a1 a_.Picks c1) (h2 : RS tApi_Step w0 χ0 a2 a_.Proof c2) (h3 : RS tApi_Pick w0 χ0 a3 b_.Picks c3) (h4 : RS tApi_Step w0 χ0 a4 b_.Proof c4) :
  Ret Tryd.prog 10 #[.agg #[.int .i64 a_.Kind, .int .i64 a_.At, .int .i64 a_.Err, .slice a1 a_.Picks.length c1, .slice a2 a_.Proof.length c2], .agg #[.int .i64 b_.Kind, .int .i64 b_.At, .int .i64 b_.Err, .slice a3 b_.Picks.length c3, .slice a4 b_.Proof.length c4]] xnone w0 χ0 (fun w χ' v => ∃ r, Q r ∧ v = .bool r) := by
 unfold VC10 at hm
 replace hm := hm (h1.sm kr)
 replace hm := hm (h2.sm kr)
 replace hm := hm (h3.sm kr)
 replace hm := hm (h4.sm kr)
 refine enter Tryd.func10 rfl (vals := [.agg #[.int .i64 a_.Kind, .int .i64 a_.At, .int .i64 a_.Err, .slice a1 a_.Picks.length c1, .slice a2 a_.Proof.length c2], .agg #[.int .i64 b_.Kind, .int .i64 b_.At, .int .i64 b_.Err, .slice a3 b_.Picks.length c3, .slice a4 b_.Proof.length c4]]) kr ?_
 intro ρ a hS hO hM
 replace h1 := h1.m0 hM
 replace h2 := h2.m0 hM
 replace h3 := h3.m0 hM
 replace h4 := h4.m0 hM
 clear hM
 refine rM T hS ⟨[(2, Pt 3 0), (3, Pt 4 0)], [(3, (26, [I a_.Kind, I a_.At, I a_.Err, Sl a1 a_.Picks c1, Sl a2 a_.Proof c2])), (4, (26, [I b_.Kind, I b_.At, I b_.Err, Sl a3 b_.Picks c3, Sl a4 b_.Proof c4]))]⟩ fun ρ a w109 χ110 hS hE hr => ?_
 replace hO := hO.mv hE rfl rfl
 replace h1 := h1.mv hE rfl
 replace h2 := h2.mv hE rfl
 replace h3 := h3.mv hE rfl
 replace h4 := h4.mv hE rfl
 clear hE hr
 refine regO ?_
 refine oP T hS 20 ⟨[(2, Pt 3 0), (3, Pt 4 0), (24, B (((a_.Kind == b_.Kind) && (a_.At == b_.At)) && (a_.Err == b_.Err)))], [(3, (26, [I a_.Kind, I a_.At, I a_.Err, Sl a1 a_.Picks c1, Sl a2 a_.Proof c2])), (4, (26, [I b_.Kind, I b_.At, I b_.Err, Sl a3 b_.Picks c3, Sl a4 b_.Proof c4]))]⟩ (sp := [10, 17]) fun a hS => ?_
 rcases Bool.eq_false_or_eq_true (((a_.Kind == b_.Kind) && (a_.At == b_.At)) && (a_.Err == b_.Err)) with hb | hb
 ·replace hS := hS.lit (t := 24) kr hb
  replace hm := hm.1 hb
  refine oP T hS 4 ⟨[(2, Pt 3 0), (3, Pt 4 0), (24, B true), (26, Sl a1 a_.Picks c1), (28, Sl a3 b_.Picks c3)], [(3, (26, [I a_.Kind, I a_.At, I a_.Err, Sl a1 a_.Picks c1, Sl a2 a_.Proof c2])), (4, (26, [I b_.Kind, I b_.At, I b_.Err, Sl a3 b_.Picks c3, Sl a4 b_.Proof c4]))]⟩ fun a hS => ?_
  refine op1 (call hS kr kr hb24 kr (fun _ _ => rfl) (k24 _ _ a_.Picks b_.Picks a1 c1 a3 c3 h1 h3) ?_)
  intro v101 a w102 χ103 hE hp hS
  replace hO := hO.mv hE rfl rfl
  replace h1 := h1.mv hE rfl
  replace h2 := h2.mv hE rfl
  replace h3 := h3.mv hE rfl
  replace h4 := h4.mv hE rfl
  clear hE
  obtain ⟨r104, hr⟩ : ∃ r, slices_Equal_api_Pick_api_Pick a_.Picks b_.Picks = r := ⟨_, rfl⟩
  replace hm := hm r104 hr
  rw [hr] at hp
  clear hr
  subst hp
  refine oP T hS 2 ⟨[(2, Pt 3 0), (3, Pt 4 0), (31, B r104)], [(3, (26, [I a_.Kind, I a_.At, I a_.Err, Sl a1 a_.Picks c1, Sl a2 a_.Proof c2])), (4, (26, [I b_.Kind, I b_.At, I b_.Err, Sl a3 b_.Picks c3, Sl a4 b_.Proof c4]))]⟩ fun a hS => ?_
  rcases Bool.eq_false_or_eq_true r104 with hb | hb
  ·replace hS := hS.lit (t := 31) kr hb
   replace hm := hm.1 hb
   refine oP T hS 4 ⟨[(31, B true), (33, Sl a2 a_.Proof c2), (35, Sl a4 b_.Proof c4)], []⟩ fun a hS => ?_
   refine op1 (call hS kr kr hb25 kr (fun _ _ => rfl) (k25 _ _ a_.Proof b_.Proof a2 c2 a4 c4 h2 h4) ?_)
   intro v105 a w106 χ107 hE hp hS
   replace hO := hO.mv hE rfl rfl
   replace h2 := h2.mv hE rfl
   replace h4 := h4.mv hE rfl
   clear hE
   obtain ⟨r108, hr⟩ : ∃ r, proof_Same a_.Proof b_.Proof = r := ⟨_, rfl⟩
   replace hm := hm r108 hr
   rw [hr] at hp
   clear hr
   subst hp
   refine eP T hS ⟨[(4, B r108)], []⟩ fun a hS => ?_
   refine wret ?_
   exact fin T hS hO (fun c => c) rfl (r := [.bool r108]) kr (fun χ' hM hC => ⟨r108, hm, rfl⟩)
  ·replace hS := hS.lit (t := 31) kr hb
   replace hm := hm.2 hb
   refine eP T hS ⟨[(4, B false)], []⟩ fun a hS => ?_
   refine wret ?_
   exact fin T hS hO (fun c => c) rfl (r := [.bool false]) kr (fun χ' hM hC => ⟨false, hm, rfl⟩)
 ·replace hS := hS.lit (t := 24) kr hb
  replace hm := hm.2 hb
  refine eP T hS ⟨[(4, B false)], []⟩ fun a hS => ?_
  refine wret ?_
  exact fin T hS hO (fun c => c) rfl (r := [.bool false]) kr (fun χ' hM hC => ⟨false, hm, rfl⟩)
theorem C10 (k24 : S24) (k25 : S25) (v : ∀ (a_ : Api_Verdict) (b_ : Api_Verdict), VC10 a_ b_ (fun r => r = verdict_Same a_ b_)) : S10 := by
 intro w χ a_ b_ a1 c1 a2 c2 a3 c3 a4 c4   h1 h2 h3 h4
 refine (W10 k24 k25 w χ a_ b_ a1 c1 a2 c2 a3 c3 a4 c4   _ (v a_ b_) h1 h2 h3 h4).mono ?_
 rintro _ _ _ _ ⟨r, rfl, h⟩
 exact h
/-- replevin/verdict.line -/
theorem W13 (k27 : S27) (w0 : World) (χ0 : Nat → Nat) (word : List UInt8) (n_ : List Int) (a1 : Option Addr) (c1 : Nat) (Q : (List UInt8) → Prop) (hm : VC13 word n_ Q) (h1 : RS tI w0 χ0 a1 n_ c1) (hAmb : Amb w0 χ0) :
  Ret Tryd.prog 13 #[.string (bs word), .slice a1 n_.length c1] xnone w0 χ0 (fun w χ' v => ∃ r, Q r ∧ v = .string (bs r)) := by
 unfold VC13 at hm
 replace hm := hm (h1.sm kr)
 refine enter Tryd.func13 rfl (vals := [.string (bs word), .slice a1 n_.length c1]) kr ?_
 intro ρ a hS hO hM
 replace h1 := h1.m0 hM
 replace hAmb := hAmb.m0 hM
 clear hM
 refine rP T hS ⟨[(0, Z word), (1, Sl a1 n_ c1)], []⟩ fun a hS => ?_
 refine wcut (fun a w => ∃ (ρ : Nat → Nat) (χ : Nat → Nat) (word_101 : List UInt8), VC13_J1 Q word_101 ∧ St Tryd.f13.ntmps ⟨[(0, Z word_101)], []⟩ ρ a w χ ∧ Old w0 χ0 w χ ∧ Amb w χ) ?_ ?_
 ·refine rP T hS ⟨[(0, Z word), (7, Sl a1 n_ c1), (8, I ((n_.length : Nat) : Int)), (9, I 0)], []⟩ fun a hS => ?_
  refine wblock ?_
  obtain ⟨I1, μ1, hm0, hm⟩ := hm
  refine wloop (σ := (List UInt8) × Int) (fun s a w => ∃ (ρ : Nat → Nat) (χ : Nat → Nat), I1 s.1 s.2 ∧ St Tryd.f13.ntmps ⟨[(0, Z s.1), (7, Sl a1 n_ c1), (8, I ((n_.length : Nat) : Int)), (9, I s.2)], []⟩ ρ a w χ ∧ Old w0 χ0 w χ ∧ RS tI w χ a1 n_ c1 ∧ Amb w χ) (fun s => μ1 s.1 s.2) (⟨word, 0⟩) ?_ ?_
  ·exact ⟨ρ, _, hm0, hS.sl _, hO, h1, hAmb⟩
  ·rintro ⟨word_102, x_104⟩ a w113 ⟨ρ, χ112, hI, hS, hO, h103, hAmb⟩
   replace hm := hm word_102 x_104 hI
   clear hI hm0
   refine rP T hS ⟨[(0, Z word_102), (7, Sl a1 n_ c1), (8, I ((n_.length : Nat) : Int)), (9, I x_104), (10, B (decide (x_104 < ((n_.length : Nat) : Int))))], []⟩ fun a hS => ?_
   refine wseq ?_
   refine wcond hS (b := decide (x_104 < ((n_.length : Nat) : Int))) kr (fun hb => ?_) (fun hb => ?_)
   ·replace hm := hm.1 hb
    refine wskip ?_
    refine wseq ?_
    refine wblock ?_
    refine regO ?_
    obtain ⟨hq, hm⟩ := hm
    refine op1 (index (e := 3) (k := .i64) T hS kr kr kr kr h103 kr kr hq.1 hq.2 ?_)
    intro A105 a h106 hS
    clear hq
    refine op1 (load1 T hS kr kr kr h106 rfl kr ?_)
    intro v107 a hv hS
    cases hv
    refine eP T hS ⟨[(0, Z word_102), (6, I (gi n_ x_104)), (7, Sl a1 n_ c1), (8, I ((n_.length : Nat) : Int)), (9, I x_104)], []⟩ fun a hS => ?_
    refine region ?_
    refine oP T hS 2 ⟨[(0, Z word_102), (7, Sl a1 n_ c1), (8, I ((n_.length : Nat) : Int)), (9, I x_104), (13, Z word_102), (14, I (gi n_ x_104))], []⟩ fun a hS => ?_
    obtain ⟨hq, hm⟩ := hm
    refine op1 (call hS kr kr hb27 kr (fun _ _ => rfl) (k27 _ _ (gi n_ x_104) hq hAmb) ?_)
    intro v108 a w109 χ110 hE hp hS
    clear hq
    replace hO := hO.mv hE rfl rfl
    replace h103 := h103.mv hE rfl
    replace hAmb := hAmb.mv hE rfl
    clear hE
    obtain ⟨r111, hr⟩ : ∃ r, token_Digits (gi n_ x_104) = r := ⟨_, rfl⟩
    replace hm := hm r111 hr
    rw [hr] at hp
    clear hr
    subst hp
    obtain ⟨hq, hm⟩ := hm
    refine op1 (sadd (p := ([32] : List UInt8)) (q := r111) hS kr kr kr kr hq ?_)
    intro a hS
    clear hq
    obtain ⟨hq, hm⟩ := hm
    refine op1 (sadd (p := word_102) (q := (([32] : List UInt8) ++ r111)) hS kr kr kr kr hq ?_)
    intro a hS
    clear hq
    refine eP T hS ⟨[(0, Z (word_102 ++ (([32] : List UInt8) ++ r111))), (7, Sl a1 n_ c1), (8, I ((n_.length : Nat) : Int)), (9, I x_104)], []⟩ fun a hS => ?_
    refine region (eP T hS ⟨[(0, Z (word_102 ++ (([32] : List UInt8) ++ r111))), (7, Sl a1 n_ c1), (8, I ((n_.length : Nat) : Int)), (9, I (IntKind.i64.wrap (x_104 + 1)))], []⟩ fun a hS => ?_)
    exact ⟨⟨(word_102 ++ (([32] : List UInt8) ++ r111)), IntKind.i64.wrap (x_104 + 1)⟩, ⟨ρ, _, hm.1, hS.sl _, hO, h103, hAmb⟩, hm.2⟩
   ·replace hm := hm.2 hb
    refine wexit (by rfl) ?_
    exact ⟨ρ, _, word_102, hm, hS.sl _, hO, hAmb⟩
 ·rintro a w115 ⟨ρ, χ114, word_101, hm, hS, hO, hAmb⟩
  unfold VC13_J1 at hm
  refine regO ?_
  refine oP T hS 1 ⟨[(19, Z word_101)], []⟩ fun a hS => ?_
  obtain ⟨hq, hm⟩ := hm
  refine op1 (sadd (p := word_101) (q := ([10] : List UInt8)) hS kr kr kr kr hq ?_)
  intro a hS
  clear hq
  refine eP T hS ⟨[(4, Z (word_101 ++ ([10] : List UInt8)))], []⟩ fun a hS => ?_
  refine wret ?_
  exact fin T hS hO (fun c => c) rfl (r := [.string (bs (word_101 ++ ([10] : List UInt8)))]) kr (fun χ' hM hC => ⟨(word_101 ++ ([10] : List UInt8)), hm, rfl⟩)
theorem C13 (k27 : S27) (v : ∀ (word : List UInt8) (n_ : List Int), preWB word n_ → VC13 word n_ (fun r => r = verdict_line word n_)) : S13 := by
 intro w χ word n_ a1 c1   hp h1 hAmb
 refine (W13 k27 w χ word n_ a1 c1   _ (v word n_ hp) h1 hAmb).mono ?_
 rintro _ _ _ _ ⟨r, rfl, h⟩
 exact h
/-- replevin/verdict.Print -/
theorem W7 (k12 : S12) (k13 : S13) (k14 : S14) (k8 : S8) (w0 : World) (χ0 : Nat → Nat) (v_ : Api_Verdict) (a1 : Option Addr) (c1 : Nat) (a2 : Option Addr) (c2 : Nat) (Q : (List UInt8) × Int → Prop) (hm : VC7 v_ Q) (h1 : RS tApi_Pick w0 χ0 a1 v_.Picks c1) (h2 : RS tApi_Step w0 χ0 a2 v_.Proof c2) (hAmb : Amb w0 χ0) :
  Ret Tryd.prog 7 #[.agg #[.int .i64 v_.Kind, .int .i64 v_.At, .int .i64 v_.Err, .slice a1 v_.Picks.length c1, .slice a2 v_.Proof.length c2]] xnone w0 χ0 (fun w χ' v => ∃ r, Q r ∧ v = .tuple #[.string (bs r.1), .int .i64 r.2]) := by
 unfold VC7 at hm
 replace hm := hm (h1.sm kr)
 replace hm := hm (h2.sm kr)
 refine enter Tryd.func7 rfl (vals := [.agg #[.int .i64 v_.Kind, .int .i64 v_.At, .int .i64 v_.Err, .slice a1 v_.Picks.length c1, .slice a2 v_.Proof.length c2]]) kr ?_
 intro ρ a hS hO hM
 replace h1 := h1.m0 hM
 replace h2 := h2.m0 hM
 replace hAmb := hAmb.m0 hM
 clear hM
 refine rM T hS ⟨[(1, Pt 2 0)], [(2, (26, [I v_.Kind, I v_.At, I v_.Err, Sl a1 v_.Picks c1, Sl a2 v_.Proof c2]))]⟩ fun ρ a w228 χ229 hS hE hr => ?_
 replace hO := hO.mv hE rfl rfl
 replace h1 := h1.mv hE rfl
 replace h2 := h2.mv hE rfl
 replace hAmb := hAmb.mv hE rfl
 clear hE hr
 refine wseq ?_
 refine regO ?_
 refine oP T hS 1 ⟨[(1, Pt 2 0), (10, V (.agg #[.int .i64 v_.Kind, .int .i64 v_.At, .int .i64 v_.Err, .slice a1 v_.Picks.length c1, .slice a2 v_.Proof.length c2]))], [(2, (26, [I v_.Kind, I v_.At, I v_.Err, Sl a1 v_.Picks c1, Sl a2 v_.Proof c2]))]⟩ fun a hS => ?_
 refine op1 (call hS kr kr hb8 kr (fun _ _ => rfl) (k8 _ _ v_ a1 c1 a2 c2 h1 h2) ?_)
 intro v101 a w102 χ103 hE hp hS
 replace hO := hO.mv hE rfl rfl
 replace h1 := h1.mv hE rfl
 replace h2 := h2.mv hE rfl
 replace hAmb := hAmb.mv hE rfl
 clear hE
 obtain ⟨r104, hr⟩ : ∃ r, verdict_Check v_ = r := ⟨_, rfl⟩
 replace hm := hm r104 hr
 rw [hr] at hp
 clear hr
 subst hp
 refine eP T hS ⟨[(1, Pt 2 0), (4, I r104)], [(2, (26, [I v_.Kind, I v_.At, I v_.Err, Sl a1 v_.Picks c1, Sl a2 v_.Proof c2]))]⟩ fun a hS => ?_
 refine rP T hS ⟨[(1, Pt 2 0), (4, I r104), (13, B (r104 != 0))], [(2, (26, [I v_.Kind, I v_.At, I v_.Err, Sl a1 v_.Picks c1, Sl a2 v_.Proof c2]))]⟩ fun a hS => ?_
 refine wcond hS (b := (r104 != 0)) kr (fun hb => ?_) (fun hb => ?_)
 ·replace hm := hm.1 hb
  refine rP T hS ⟨[(2, Z ([] : List UInt8)), (3, I r104)], []⟩ fun a hS => ?_
  refine wret ?_
  exact fin T hS hO (fun c => c) rfl (r := [.string (bs ([] : List UInt8)), .int .i64 r104]) kr (fun χ' hM hC => ⟨(([] : List UInt8), r104), hm, rfl⟩)
 ·replace hm := hm.2 hb
  refine wskip ?_
  refine regO ?_
  refine oP T hS 2 ⟨[(1, Pt 2 0), (16, I v_.Kind)], [(2, (26, [I v_.Kind, I v_.At, I v_.Err, Sl a1 v_.Picks c1, Sl a2 v_.Proof c2]))]⟩ fun a hS => ?_
  refine op1 (call hS kr kr hb12 kr (fun _ _ => rfl) (k12 _ _ v_.Kind) ?_)
  intro v105 a w106 χ107 hE hp hS
  replace hO := hO.mv hE rfl rfl
  replace h1 := h1.mv hE rfl
  replace h2 := h2.mv hE rfl
  replace hAmb := hAmb.mv hE rfl
  clear hE
  obtain ⟨r108, hr⟩ : ∃ r, verdict_Word v_.Kind = r := ⟨_, rfl⟩
  replace hm := hm r108 hr
  rw [hr] at hp
  clear hr
  subst hp
  obtain ⟨hq, hm⟩ := hm
  refine op1 (call hS kr kr hb13 kr (fun _ _ => rfl) (k13 _ _ r108 [] none 0 hq (RS.empty _ _ _) hAmb) ?_)
  intro v109 a w110 χ111 hE hp hS
  clear hq
  replace hO := hO.mv hE rfl rfl
  replace h1 := h1.mv hE rfl
  replace h2 := h2.mv hE rfl
  replace hAmb := hAmb.mv hE rfl
  clear hE
  obtain ⟨r112, hr⟩ : ∃ r, verdict_line r108 [] = r := ⟨_, rfl⟩
  replace hm := hm r112 hr
  rw [hr] at hp
  clear hr
  subst hp
  refine eP T hS ⟨[(1, Pt 2 0), (5, Z r112)], [(2, (26, [I v_.Kind, I v_.At, I v_.Err, Sl a1 v_.Picks c1, Sl a2 v_.Proof c2]))]⟩ fun a hS => ?_
  refine wcut (fun a w => ∃ (ρ : Nat → Nat) (χ : Nat → Nat) (s_113 : List UInt8), VC7_J1 Q s_113 ∧ St Tryd.f7.ntmps ⟨[(5, Z s_113)], []⟩ ρ a w χ ∧ Old w0 χ0 w χ ∧ Amb w χ) ?_ ?_
  ·refine rP T hS ⟨[(1, Pt 2 0), (5, Z r112), (20, I v_.Kind)], [(2, (26, [I v_.Kind, I v_.At, I v_.Err, Sl a1 v_.Picks c1, Sl a2 v_.Proof c2]))]⟩ fun a hS => ?_
   refine wblock ?_
   refine rP T hS ⟨[(1, Pt 2 0), (5, Z r112), (20, I v_.Kind), (21, B (v_.Kind == 1))], [(2, (26, [I v_.Kind, I v_.At, I v_.Err, Sl a1 v_.Picks c1, Sl a2 v_.Proof c2]))]⟩ fun a hS => ?_
   refine wcond hS (b := (v_.Kind == 1)) kr (fun hb => ?_) (fun hb => ?_)
   ·replace hm := hm.1 hb
    refine drawnX [2] mixed hS ?_
    intro w114 χ115 hS hE hD hH
    replace hO := hO.mv hE rfl rfl
    replace h1 := h1.mv hE rfl
    replace h2 := h2.mv hE rfl
    replace hAmb := hAmb.mv hE rfl
    clear hE
    refine tk T [0, 3, 5, 1, 4, 6] [2] hS hH #[true, true, false, true, true, true, true, false, false, false] 4 ⟨[(5, Z r112), (24, I v_.Kind), (27, I v_.At), (29, I v_.Err)], [(2, (26, [I v_.Kind, I v_.At, I v_.Err, Sl a1 v_.Picks c1, Sl a2 v_.Proof c2]))]⟩ fun a hS => ?_
    obtain ⟨r119, hgr2⟩ : ∃ r, verdict_Word v_.Kind = r := ⟨_, rfl⟩
    replace hm := hm r119 hgr2
    refine drcut (fun a w => ∃ (χ : Nat → Nat) (a133 : Option Addr) (c134 : Nat), St Tryd.f7.ntmps ⟨[(5, Z r112), (25, Z r119), (30, Sl a133 [v_.At, v_.Err] c134)], [(2, (26, [I v_.Kind, I v_.At, I v_.Err, Sl a1 v_.Picks c1, Sl a2 v_.Proof c2]))]⟩ ρ a w χ ∧ Old w0 χ0 w χ ∧ M0 w114 χ115 w χ ∧ Hold w114 χ115 (filt [2] ⟨[(1, Pt 2 0), (5, Z r112)], [(2, (26, [I v_.Kind, I v_.At, I v_.Err, Sl a1 v_.Picks c1, Sl a2 v_.Proof c2]))]⟩) ρ w ∧ RS tI w χ a133 [v_.At, v_.Err] c134 ∧ RS tApi_Pick w χ a1 v_.Picks c1 ∧ RS tApi_Step w χ a2 v_.Proof c2 ∧ Amb w χ) #[true, true, true, true, true, true, true, true, false, false] 2 ?_ (fun H => ?_)
    ·rintro a w154 ⟨χ153, a133, c134, hS, hO, hD, hH, h132, h135, h136, hAmb⟩
     clear hgr2
     obtain ⟨hq, hm⟩ := hm
     refine only 8 kr (by rfl) (call hS kr kr hb13 kr (fun _ _ => rfl) (k13 _ _ r119 [v_.At, v_.Err] a133 c134 hq h132 hAmb) ?_)
     intro v155 a w156 χ157 hE hp hS
     clear hq
     replace hO := hO.mv hE rfl rfl
     replace hD := hD.ev hE rfl
     replace h132 := h132.mv hE rfl
     replace h135 := h135.mv hE rfl
     replace h136 := h136.mv hE rfl
     replace hAmb := hAmb.mv hE rfl
     clear hE
     obtain ⟨r158, hr⟩ : ∃ r, verdict_line r119 [v_.At, v_.Err] = r := ⟨_, rfl⟩
     replace hm := hm r158 hr
     rw [hr] at hp
     clear hr
     subst hp
     replace hS := hS.sl ⟨[(5, Z r112), (25, Z r119), (30, Sl a133 [v_.At, v_.Err] c134), (31, Z r158)], [(2, (26, [I v_.Kind, I v_.At, I v_.Err, Sl a1 v_.Picks c1, Sl a2 v_.Proof c2]))]⟩
     refine andH (Hold.of hS (bks := [2]) kr hD) ?_
     intro hH
     refine tk T [9] [2] hS hH #[true, true, true, true, true, true, true, true, true, true] 0 ⟨[(5, Z r158)], [(2, (26, [I v_.Kind, I v_.At, I v_.Err, Sl a1 v_.Picks c1, Sl a2 v_.Proof c2]))]⟩ fun a hS => ?_
     refine drawnDone kr ?_
     clear hD hH
     replace hS := hS.sl ⟨[(5, Z r158)], []⟩
     exact ⟨ρ, _, r158, hm, hS.sl _, hO, hAmb⟩
    ·clear hm
     refine anyOf (is := [2, 7]) kr (by decide) ?_
     intro i hi
     rcases mem2 hi with rfl | rfl
     ·refine oneOp (by rfl) (call hS kr kr hb12 kr (fun _ _ => rfl) (k12 _ _ v_.Kind) ?_)
      intro v137 a w138 χ139 hE hp hS
      replace hO := hO.mv hE rfl rfl
      replace hD := hD.ev hE rfl
      replace h1 := h1.mv hE rfl
      replace h2 := h2.mv hE rfl
      replace hAmb := hAmb.mv hE rfl
      clear hE
      rw [hgr2] at hp
      subst hp
      replace hS := hS.sl ⟨[(5, Z r112), (24, I v_.Kind), (27, I v_.At), (29, I v_.Err), (25, Z r119)], [(2, (26, [I v_.Kind, I v_.At, I v_.Err, Sl a1 v_.Picks c1, Sl a2 v_.Proof c2]))]⟩
      refine andH (Hold.of hS (bks := [2]) kr hD) ?_
      intro hH
      refine only 7 kr (by rfl) (lit (E := 3) (col := 0) (T := tI) (vals := [.int .i64 v_.At, .int .i64 v_.Err]) (ys := [v_.At, v_.Err]) T hS kr kr kr kr (by exact ⟨rfl, rfl, trivial⟩) rfl kr kr kr kr ?_)
      intro b141 a w142 χ143 hE h144 hN hS
      clear hN
      replace hO := hO.mv hE rfl rfl
      replace hD := hD.ev hE rfl
      replace h1 := h1.mv hE rfl
      replace h2 := h2.mv hE rfl
      replace hAmb := hAmb.mv hE rfl
      clear hE
      replace h144 := h144.rs0
      refine andH (Hold.of hS (bks := [2]) kr hD) ?_
      intro hH
      exact H _ _ ⟨_, (some ⟨b141, 0, none⟩), 2, hS.sl _, hO, hD, hH, h144, h1, h2, hAmb⟩
     ·refine oneOp (by rfl) (lit (E := 3) (col := 0) (T := tI) (vals := [.int .i64 v_.At, .int .i64 v_.Err]) (ys := [v_.At, v_.Err]) T hS kr kr kr kr (by exact ⟨rfl, rfl, trivial⟩) rfl kr kr kr kr ?_)
      intro b145 a w146 χ147 hE h148 hN hS
      clear hN
      replace hO := hO.mv hE rfl rfl
      replace hD := hD.ev hE rfl
      replace h1 := h1.mv hE rfl
      replace h2 := h2.mv hE rfl
      replace hAmb := hAmb.mv hE rfl
      clear hE
      replace h148 := h148.rs0
      refine andH (Hold.of hS (bks := [2]) kr hD) ?_
      intro hH
      refine only 2 kr (by rfl) (call hS kr kr hb12 kr (fun _ _ => rfl) (k12 _ _ v_.Kind) ?_)
      intro v149 a w150 χ151 hE hp hS
      replace hO := hO.mv hE rfl rfl
      replace hD := hD.ev hE rfl
      replace h1 := h1.mv hE rfl
      replace h2 := h2.mv hE rfl
      replace hAmb := hAmb.mv hE rfl
      replace h148 := h148.mv hE rfl
      clear hE
      rw [hgr2] at hp
      subst hp
      replace hS := hS.sl ⟨[(5, Z r112), (24, I v_.Kind), (27, I v_.At), (29, I v_.Err), (30, Sl (some ⟨b145, 0, none⟩) [v_.At, v_.Err] 2), (25, Z r119)], [(2, (26, [I v_.Kind, I v_.At, I v_.Err, Sl a1 v_.Picks c1, Sl a2 v_.Proof c2]))]⟩
      refine andH (Hold.of hS (bks := [2]) kr hD) ?_
      intro hH
      exact H _ _ ⟨_, (some ⟨b145, 0, none⟩), 2, hS.sl _, hO, hD, hH, h148, h1, h2, hAmb⟩
   ·replace hm := hm.2 hb
    refine rP T hS ⟨[(1, Pt 2 0), (5, Z r112), (20, I v_.Kind), (32, B (v_.Kind == 4))], [(2, (26, [I v_.Kind, I v_.At, I v_.Err, Sl a1 v_.Picks c1, Sl a2 v_.Proof c2]))]⟩ fun a hS => ?_
    refine wcond hS (b := (v_.Kind == 4)) kr (fun hb => ?_) (fun hb => ?_)
    ·replace hm := hm.1 hb
     refine drawnSX [2] mixed hS ?_
     intro w159 χ160 hS hE hD hH
     replace hO := hO.mv hE rfl rfl
     replace h1 := h1.mv hE rfl
     replace h2 := h2.mv hE rfl
     replace hAmb := hAmb.mv hE rfl
     clear hE
     refine tk T [0, 3, 1, 4, 5] [2] hS hH #[true, true, false, true, true, true, false, false, false] 4 ⟨[(1, Pt 2 0), (5, Z r112), (35, I v_.Kind), (39, I ((v_.Picks.length : Nat) : Int))], [(2, (26, [I v_.Kind, I v_.At, I v_.Err, Sl a1 v_.Picks c1, Sl a2 v_.Proof c2]))]⟩ fun a hS => ?_
     obtain ⟨r164, hgr2⟩ : ∃ r, verdict_Word v_.Kind = r := ⟨_, rfl⟩
     replace hm := hm r164 hgr2
     refine drcut (fun a w => ∃ (χ : Nat → Nat) (a178 : Option Addr) (c179 : Nat), St Tryd.f7.ntmps ⟨[(1, Pt 2 0), (5, Z r112), (36, Z r164), (40, Sl a178 [((v_.Picks.length : Nat) : Int)] c179)], [(2, (26, [I v_.Kind, I v_.At, I v_.Err, Sl a1 v_.Picks c1, Sl a2 v_.Proof c2]))]⟩ ρ a w χ ∧ Old w0 χ0 w χ ∧ M0 w159 χ160 w χ ∧ Hold w159 χ160 (filt [2] ⟨[(1, Pt 2 0), (5, Z r112)], [(2, (26, [I v_.Kind, I v_.At, I v_.Err, Sl a1 v_.Picks c1, Sl a2 v_.Proof c2]))]⟩) ρ w ∧ RS tI w χ a178 [((v_.Picks.length : Nat) : Int)] c179 ∧ RS tApi_Pick w χ a1 v_.Picks c1 ∧ RS tApi_Step w χ a2 v_.Proof c2 ∧ Amb w χ) #[true, true, true, true, true, true, true, false, false] 2 ?_ (fun H => ?_)
     ·rintro a w199 ⟨χ198, a178, c179, hS, hO, hD, hH, h177, h180, h181, hAmb⟩
      clear hgr2
      obtain ⟨hq, hm⟩ := hm
      refine only 7 kr (by rfl) (call hS kr kr hb13 kr (fun _ _ => rfl) (k13 _ _ r164 [((v_.Picks.length : Nat) : Int)] a178 c179 hq h177 hAmb) ?_)
      intro v200 a w201 χ202 hE hp hS
      clear hq
      replace hO := hO.mv hE rfl rfl
      replace hD := hD.ev hE rfl
      replace h177 := h177.mv hE rfl
      replace h180 := h180.mv hE rfl
      replace h181 := h181.mv hE rfl
      replace hAmb := hAmb.mv hE rfl
      clear hE
      obtain ⟨r203, hr⟩ : ∃ r, verdict_line r164 [((v_.Picks.length : Nat) : Int)] = r := ⟨_, rfl⟩
      replace hm := hm r203 hr
      rw [hr] at hp
      clear hr
      subst hp
      replace hS := hS.sl ⟨[(1, Pt 2 0), (5, Z r112), (36, Z r164), (40, Sl a178 [((v_.Picks.length : Nat) : Int)] c179), (41, Z r203)], [(2, (26, [I v_.Kind, I v_.At, I v_.Err, Sl a1 v_.Picks c1, Sl a2 v_.Proof c2]))]⟩
      refine andH (Hold.of hS (bks := [2]) kr hD) ?_
      intro hH
      refine tk T [8] [2] hS hH #[true, true, true, true, true, true, true, true, true] 0 ⟨[(1, Pt 2 0), (5, Z r203)], [(2, (26, [I v_.Kind, I v_.At, I v_.Err, Sl a1 v_.Picks c1, Sl a2 v_.Proof c2]))]⟩ fun a hS => ?_
      refine drawnDone kr ?_
      clear hD hH
      replace hS := hS.sl ⟨[(1, Pt 2 0), (5, Z r203)], [(2, (26, [I v_.Kind, I v_.At, I v_.Err, Sl a1 v_.Picks c1, Sl a2 v_.Proof c2]))]⟩
      refine rP T hS ⟨[(5, Z r203), (43, Sl a1 v_.Picks c1), (44, I ((v_.Picks.length : Nat) : Int)), (45, I 0)], []⟩ fun a hS => ?_
      refine wblock ?_
      obtain ⟨I1, μ1, hm0, hm⟩ := hm
      refine wloop (σ := (List UInt8) × Int) (fun s a w => ∃ (ρ : Nat → Nat) (χ : Nat → Nat), I1 s.1 s.2 ∧ St Tryd.f7.ntmps ⟨[(5, Z s.1), (43, Sl a1 v_.Picks c1), (44, I ((v_.Picks.length : Nat) : Int)), (45, I s.2)], []⟩ ρ a w χ ∧ Old w0 χ0 w χ ∧ RS tApi_Pick w χ a1 v_.Picks c1 ∧ Amb w χ) (fun s => μ1 s.1 s.2) (⟨r203, 0⟩) ?_ ?_
      ·exact ⟨ρ, _, hm0, hS.sl _, hO, h180, hAmb⟩
      ·rintro ⟨s_204, x_206⟩ a w221 ⟨ρ, χ220, hI, hS, hO, h205, hAmb⟩
       replace hm := hm s_204 x_206 hI
       clear hI hm0
       refine rP T hS ⟨[(5, Z s_204), (43, Sl a1 v_.Picks c1), (44, I ((v_.Picks.length : Nat) : Int)), (45, I x_206), (46, B (decide (x_206 < ((v_.Picks.length : Nat) : Int))))], []⟩ fun a hS => ?_
       refine wseq ?_
       refine wcond hS (b := decide (x_206 < ((v_.Picks.length : Nat) : Int))) kr (fun hb => ?_) (fun hb => ?_)
       ·replace hm := hm.1 hb
        refine wskip ?_
        refine wseq ?_
        refine wblock ?_
        refine regO ?_
        obtain ⟨hq, hm⟩ := hm
        refine op1 (index (e := 39) (k := .i64) T hS kr kr kr kr h205 kr kr hq.1 hq.2 ?_)
        intro A207 a h208 hS
        clear hq
        refine op1 (loadA T hS kr kr kr h208 kr kr ?_)
        intro v209 a hv hS
        subst hv
        refine eM T hS ⟨[(5, Z s_204), (7, Pt 8 0), (43, Sl a1 v_.Picks c1), (44, I ((v_.Picks.length : Nat) : Int)), (45, I x_206)], [(8, (39, [I ((gi v_.Picks x_206).Oper), I ((gi v_.Picks x_206).Result)]))]⟩ fun ρ a w218 χ219 hS hE hr => ?_
        replace hO := hO.mv hE rfl rfl
        replace h205 := h205.mv hE rfl
        replace hAmb := hAmb.mv hE rfl
        clear hE hr
        refine region ?_
        refine oP T hS 5 ⟨[(5, Z s_204), (43, Sl a1 v_.Picks c1), (44, I ((v_.Picks.length : Nat) : Int)), (45, I x_206), (49, Z s_204), (51, I ((gi v_.Picks x_206).Oper)), (53, I ((gi v_.Picks x_206).Result))], []⟩ fun a hS => ?_
        refine op1 (lit (E := 3) (col := 0) (T := tI) (vals := [.int .i64 ((gi v_.Picks x_206).Oper), .int .i64 ((gi v_.Picks x_206).Result)]) (ys := [(gi v_.Picks x_206).Oper, (gi v_.Picks x_206).Result]) T hS kr kr kr kr (by exact ⟨rfl, rfl, trivial⟩) rfl kr kr kr kr ?_)
        intro b210 a w211 χ212 hE h213 hN hS
        clear hN
        replace hO := hO.mv hE rfl rfl
        replace h205 := h205.mv hE rfl
        replace hAmb := hAmb.mv hE rfl
        clear hE
        replace h213 := h213.rs0
        obtain ⟨hq, hm⟩ := hm
        refine op1 (call hS kr kr hb13 kr (fun _ _ => rfl) (k13 _ _ ([112, 105, 99, 107] : List UInt8) [(gi v_.Picks x_206).Oper, (gi v_.Picks x_206).Result] (some ⟨b210, 0, none⟩) 2 hq h213 hAmb) ?_)
        intro v214 a w215 χ216 hE hp hS
        clear hq
        replace hO := hO.mv hE rfl rfl
        replace h205 := h205.mv hE rfl
        replace hAmb := hAmb.mv hE rfl
        replace h213 := h213.mv hE rfl
        clear hE
        obtain ⟨r217, hr⟩ : ∃ r, verdict_line ([112, 105, 99, 107] : List UInt8) [(gi v_.Picks x_206).Oper, (gi v_.Picks x_206).Result] = r := ⟨_, rfl⟩
        replace hm := hm r217 hr
        rw [hr] at hp
        clear hr
        subst hp
        obtain ⟨hq, hm⟩ := hm
        refine op1 (sadd (p := s_204) (q := r217) hS kr kr kr kr hq ?_)
        intro a hS
        clear hq
        refine eP T hS ⟨[(5, Z (s_204 ++ r217)), (43, Sl a1 v_.Picks c1), (44, I ((v_.Picks.length : Nat) : Int)), (45, I x_206)], []⟩ fun a hS => ?_
        refine region (eP T hS ⟨[(5, Z (s_204 ++ r217)), (43, Sl a1 v_.Picks c1), (44, I ((v_.Picks.length : Nat) : Int)), (45, I (IntKind.i64.wrap (x_206 + 1)))], []⟩ fun a hS => ?_)
        exact ⟨⟨(s_204 ++ r217), IntKind.i64.wrap (x_206 + 1)⟩, ⟨ρ, _, hm.1, hS.sl _, hO, h205, hAmb⟩, hm.2⟩
       ·replace hm := hm.2 hb
        refine wexit (by rfl) ?_
        exact ⟨ρ, _, s_204, hm, hS.sl _, hO, hAmb⟩
     ·clear hm
      refine anyOf (is := [2, 6]) kr (by decide) ?_
      intro i hi
      rcases mem2 hi with rfl | rfl
      ·refine oneOp (by rfl) (call hS kr kr hb12 kr (fun _ _ => rfl) (k12 _ _ v_.Kind) ?_)
       intro v182 a w183 χ184 hE hp hS
       replace hO := hO.mv hE rfl rfl
       replace hD := hD.ev hE rfl
       replace h1 := h1.mv hE rfl
       replace h2 := h2.mv hE rfl
       replace hAmb := hAmb.mv hE rfl
       clear hE
       rw [hgr2] at hp
       subst hp
       replace hS := hS.sl ⟨[(1, Pt 2 0), (5, Z r112), (35, I v_.Kind), (39, I ((v_.Picks.length : Nat) : Int)), (36, Z r164)], [(2, (26, [I v_.Kind, I v_.At, I v_.Err, Sl a1 v_.Picks c1, Sl a2 v_.Proof c2]))]⟩
       refine andH (Hold.of hS (bks := [2]) kr hD) ?_
       intro hH
       refine only 6 kr (by rfl) (lit (E := 3) (col := 0) (T := tI) (vals := [.int .i64 ((v_.Picks.length : Nat) : Int)]) (ys := [((v_.Picks.length : Nat) : Int)]) T hS kr kr kr kr (by exact ⟨rfl, trivial⟩) rfl kr kr kr kr ?_)
       intro b186 a w187 χ188 hE h189 hN hS
       clear hN
       replace hO := hO.mv hE rfl rfl
       replace hD := hD.ev hE rfl
       replace h1 := h1.mv hE rfl
       replace h2 := h2.mv hE rfl
       replace hAmb := hAmb.mv hE rfl
       clear hE
       replace h189 := h189.rs0
       refine andH (Hold.of hS (bks := [2]) kr hD) ?_
       intro hH
       exact H _ _ ⟨_, (some ⟨b186, 0, none⟩), 1, hS.sl _, hO, hD, hH, h189, h1, h2, hAmb⟩
      ·refine oneOp (by rfl) (lit (E := 3) (col := 0) (T := tI) (vals := [.int .i64 ((v_.Picks.length : Nat) : Int)]) (ys := [((v_.Picks.length : Nat) : Int)]) T hS kr kr kr kr (by exact ⟨rfl, trivial⟩) rfl kr kr kr kr ?_)
       intro b190 a w191 χ192 hE h193 hN hS
       clear hN
       replace hO := hO.mv hE rfl rfl
       replace hD := hD.ev hE rfl
       replace h1 := h1.mv hE rfl
       replace h2 := h2.mv hE rfl
       replace hAmb := hAmb.mv hE rfl
       clear hE
       replace h193 := h193.rs0
       refine andH (Hold.of hS (bks := [2]) kr hD) ?_
       intro hH
       refine only 2 kr (by rfl) (call hS kr kr hb12 kr (fun _ _ => rfl) (k12 _ _ v_.Kind) ?_)
       intro v194 a w195 χ196 hE hp hS
       replace hO := hO.mv hE rfl rfl
       replace hD := hD.ev hE rfl
       replace h1 := h1.mv hE rfl
       replace h2 := h2.mv hE rfl
       replace hAmb := hAmb.mv hE rfl
       replace h193 := h193.mv hE rfl
       clear hE
       rw [hgr2] at hp
       subst hp
       replace hS := hS.sl ⟨[(1, Pt 2 0), (5, Z r112), (35, I v_.Kind), (39, I ((v_.Picks.length : Nat) : Int)), (40, Sl (some ⟨b190, 0, none⟩) [((v_.Picks.length : Nat) : Int)] 1), (36, Z r164)], [(2, (26, [I v_.Kind, I v_.At, I v_.Err, Sl a1 v_.Picks c1, Sl a2 v_.Proof c2]))]⟩
       refine andH (Hold.of hS (bks := [2]) kr hD) ?_
       intro hH
       exact H _ _ ⟨_, (some ⟨b190, 0, none⟩), 1, hS.sl _, hO, hD, hH, h193, h1, h2, hAmb⟩
    ·replace hm := hm.2 hb
     refine rP T hS ⟨[(1, Pt 2 0), (5, Z r112), (58, B (v_.Kind == 5))], [(2, (26, [I v_.Kind, I v_.At, I v_.Err, Sl a1 v_.Picks c1, Sl a2 v_.Proof c2]))]⟩ fun a hS => ?_
     refine wcond hS (b := (v_.Kind == 5)) kr (fun hb => ?_) (fun hb => ?_)
     ·replace hm := hm.1 hb
      refine regO ?_
      refine oP T hS 2 ⟨[(5, Z r112), (62, Sl a2 v_.Proof c2)], []⟩ fun a hS => ?_
      refine op1 (call hS kr kr hb14 kr (fun _ _ => rfl) (k14 _ _ v_.Proof a2 c2 h2 hAmb) ?_)
      intro v222 a w223 χ224 hE hp hS
      replace hO := hO.mv hE rfl rfl
      replace h2 := h2.mv hE rfl
      replace hAmb := hAmb.mv hE rfl
      clear hE
      obtain ⟨r225, hr⟩ : ∃ r, proof_Print v_.Proof = r := ⟨_, rfl⟩
      replace hm := hm r225 hr
      rw [hr] at hp
      clear hr
      subst hp
      refine eP T hS ⟨[(5, Z r112), (8, Z r225.1), (9, I r225.2)], []⟩ fun a hS => ?_
      refine wseq ?_
      refine rP T hS ⟨[(5, Z r112), (8, Z r225.1), (75, B ((r225.2 != 0) || (decide ((IntKind.i64.wrap (((r112.length : Nat) : Int) + ((r225.1.length : Nat) : Int))) > 1000000))))], []⟩ (sp := [68]) fun a hS => ?_
      refine wcond hS (b := ((r225.2 != 0) || (decide ((IntKind.i64.wrap (((r112.length : Nat) : Int) + ((r225.1.length : Nat) : Int))) > 1000000)))) kr (fun hb => ?_) (fun hb => ?_)
      ·replace hm := hm.1 hb
       refine rP T hS ⟨[(2, Z ([] : List UInt8)), (3, I 3)], []⟩ fun a hS => ?_
       refine wret ?_
       exact fin T hS hO (fun c => c) rfl (r := [.string (bs ([] : List UInt8)), .int .i64 3]) kr (fun χ' hM hC => ⟨(([] : List UInt8), 3), hm, rfl⟩)
      ·replace hm := hm.2 hb
       refine wskip ?_
       refine region ?_
       refine oP T hS 2 ⟨[(5, Z r112), (76, Z r112), (77, Z r225.1)], []⟩ fun a hS => ?_
       obtain ⟨hq, hm⟩ := hm
       refine op1 (sadd (p := r112) (q := r225.1) hS kr kr kr kr hq ?_)
       intro a hS
       clear hq
       refine eP T hS ⟨[(5, Z (r112 ++ r225.1))], []⟩ fun a hS => ?_
       exact ⟨ρ, _, (r112 ++ r225.1), hm, hS.sl _, hO, hAmb⟩
     ·replace hm := hm.2 hb
      refine wskip ?_
      exact ⟨ρ, _, r112, hm, hS.sl _, hO, hAmb⟩
  ·rintro a w227 ⟨ρ, χ226, s_113, hm, hS, hO, hAmb⟩
   unfold VC7_J1 at hm
   refine rP T hS ⟨[(2, Z s_113), (3, I 0)], []⟩ fun a hS => ?_
   refine wret ?_
   exact fin T hS hO (fun c => c) rfl (r := [.string (bs s_113), .int .i64 0]) kr (fun χ' hM hC => ⟨(s_113, 0), hm, rfl⟩)
theorem C7 (k12 : S12) (k13 : S13) (k14 : S14) (k8 : S8) (v : ∀ (v_ : Api_Verdict), VC7 v_ (fun r => r = verdict_Print v_)) : S7 := by
 intro w χ v_ a1 c1 a2 c2   h1 h2 hAmb
 refine (W7 k12 k13 k14 k8 w χ v_ a1 c1 a2 c2   _ (v v_) h1 h2 hAmb).mono ?_
 rintro _ _ _ _ ⟨r, rfl, h⟩
 exact h
/-- (*replevin/verdict.reader).next -/
theorem W23 (w0 : World) (χ0 : Nat → Nat) (cap1 : Verdict_reader) (a1 : Option Addr) (c1 : Nat) (b1 : Nat) (i1 : Nat) (Q : (List Token_Token) × Verdict_reader → Prop) (hm : VC23 cap1 Q) (h1 : RS (tSlice tToken_Token) w0 χ0 a1 cap1.rest c1) (hc1 : Cell w0 χ0 b1 i1 50 [.slice a1 cap1.rest.length c1, .int .i64 cap1.end_, .int .i64 cap1.at_, .int .i64 cap1.e]) (hA : Apart [i1]) :
  Ret Tryd.prog 23 #[.pointer (some ⟨b1, 0, none⟩)] (pR [i1]) w0 χ0 (fun w χ' v => ∃ r, Q r ∧ ∃ (ra1 : Option Addr) (rc1 : Nat) (ra2 : Option Addr) (rc2 : Nat), v = .slice ra1 r.1.length rc1 ∧ RS tToken_Token w χ' ra1 r.1 rc1 ∧ RS (tSlice tToken_Token) w χ' ra2 r.2.rest rc2 ∧ Cell w χ' b1 i1 50 [.slice ra2 r.2.rest.length rc2, .int .i64 r.2.end_, .int .i64 r.2.at_, .int .i64 r.2.e]) := by
 unfold VC23 at hm
 replace hm := hm (h1.sm kr)
 refine enterR Tryd.func23 rfl (f0of [(i1, 901)]) (fun id => (bif Nat.beq id 901 then b1 else 0)) (args := [Pt 901 0]) (bxs := [(901, (50, [Sl a1 cap1.rest c1, I cap1.end_, I cap1.at_, I cap1.e]))]) kr rfl (BoxesOK.cons kr (hc1.map (f0of_at 0 hA.1 rfl)) BoxesOK.nil) (f0of_0 (fun q hq => (hA.2 q.1 (List.mem_map.2 ⟨q, hq, rfl⟩)).1)) ?_
 intro a hS hO hM
 have hP : Pin [(901, b1)] (fun id => (bif Nat.beq id 901 then b1 else 0)) := by intro q hq; simp at hq; rcases hq with rfl <;> rfl
 generalize (fun id => (bif Nat.beq id 901 then b1 else 0)) = ρ at hS hP
 clear hc1
 replace h1 := h1.m0 hM
 clear hM
 refine rP T hS ⟨[(0, Pt 901 0)], [(901, (50, [Sl a1 cap1.rest c1, I cap1.end_, I cap1.at_, I cap1.e]))]⟩ fun a hS => ?_
 refine wcut (fun a w => ∃ (ρ : Nat → Nat) (χ : Nat → Nat) (x_101 : List (List Token_Token)) (x_105 : Int) (x_106 : Int) (x_107 : Int) (a102 : Option Addr) (c103 : Nat), VC23_J1 Q x_101 x_105 x_106 x_107 ∧ St Tryd.f23.ntmps ⟨[], [(901, (50, [Sl a102 x_101 c103, I x_105, I x_106, I x_107]))]⟩ ρ a w χ ∧ OldR (f0of [(i1, 901)]) w0 χ0 w χ ∧ Pin [(901, b1)] ρ ∧ RS (tSlice tToken_Token) w χ a102 x_101 c103) ?_ ?_
 ·refine wblock ?_
  obtain ⟨I1, μ1, hm0, hm⟩ := hm
  refine wloop (σ := (List (List Token_Token)) × Int × Int × Int) (fun s a w => ∃ (ρ : Nat → Nat) (χ : Nat → Nat) (a109 : Option Addr) (c110 : Nat), I1 s.1 s.2.1 s.2.2.1 s.2.2.2 ∧ St Tryd.f23.ntmps ⟨[(0, Pt 901 0)], [(901, (50, [Sl a109 s.1 c110, I s.2.1, I s.2.2.1, I s.2.2.2]))]⟩ ρ a w χ ∧ OldR (f0of [(i1, 901)]) w0 χ0 w χ ∧ Pin [(901, b1)] ρ ∧ RS (tSlice tToken_Token) w χ a109 s.1 c110) (fun s => μ1 s.1 s.2.1 s.2.2.1 s.2.2.2) (⟨cap1.rest, cap1.end_, cap1.at_, cap1.e⟩) ?_ ?_
  ·exact ⟨ρ, _, a1, c1, hm0, hS.sl _, hO, hP, h1⟩
  ·rintro ⟨x_108, x_112, x_113, x_114⟩ a w127 ⟨ρ, χ126, a109, c110, hI, hS, hO, hP, h111⟩
   replace hm := hm x_108 x_112 x_113 x_114 hI
   clear hI hm0
   refine wseq ?_
   refine rP T hS ⟨[(0, Pt 901 0), (9, B (decide (((x_108.length : Nat) : Int) > 0)))], [(901, (50, [Sl a109 x_108 c110, I x_112, I x_113, I x_114]))]⟩ fun a hS => ?_
   refine wcond hS (b := decide (((x_108.length : Nat) : Int) > 0)) kr (fun hb => ?_) (fun hb => ?_)
   ·replace hm := hm.1 hb
    refine wskip ?_
    refine wblock ?_
    refine regO ?_
    refine oP T hS 4 ⟨[(0, Pt 901 0), (13, Sl a109 x_108 c110)], [(901, (50, [Sl a109 x_108 c110, I x_112, I x_113, I x_114]))]⟩ fun a hS => ?_
    obtain ⟨hq, hm⟩ := hm
    refine op1 (index (e := 58) (k := .i64) T hS kr kr kr kr h111 kr kr hq.1 hq.2 ?_)
    intro A115 a h116 hS
    clear hq
    refine op1 (load1 T hS kr kr kr h116 rfl kr ?_)
    intro v117 a hv hS
    obtain ⟨a118, c119, hv, h120⟩ := hv
    cases hv
    replace hm := hm (h120.sm kr)
    refine eP T hS ⟨[(0, Pt 901 0), (3, Sl a118 (gi x_108 0) c119)], [(901, (50, [Sl a109 x_108 c110, I x_112, I x_113, I x_114]))]⟩ fun a hS => ?_
    refine regO ?_
    refine oP T hS 5 ⟨[(0, Pt 901 0), (3, Sl a118 (gi x_108 0) c119), (16, Pt 901 0), (20, Sl a109 x_108 c110)], [(901, (50, [Sl a109 x_108 c110, I x_112, I x_113, I x_114]))]⟩ fun a hS => ?_
    obtain ⟨hq, hm⟩ := hm
    refine op1 (slice1 (E := 58) (kl := .i64) T hS kr kr kr kr h111 kr kr hq.1 hq.2 ?_)
    intro a121 c122 a h123 hS
    clear hq
    refine eM T hS ⟨[(0, Pt 901 0), (3, Sl a118 (gi x_108 0) c119)], [(901, (50, [Sl a121 (x_108.drop (1 : Int).toNat) c122, I x_112, I x_113, I x_114]))]⟩ fun ρ a w124 χ125 hS hE hr => ?_
    replace hO := hO.mv hE rfl rfl
    replace h120 := h120.mv hE rfl
    replace h123 := h123.mv hE rfl
    replace hP := hP.mv hr kr
    clear hE hr
    refine rP T hS ⟨[(0, Pt 901 0), (3, Sl a118 (gi x_108 0) c119), (26, B (decide ((((gi x_108 0).length : Nat) : Int) > 0)))], [(901, (50, [Sl a121 (x_108.drop (1 : Int).toNat) c122, I x_112, I x_113, I x_114]))]⟩ fun a hS => ?_
    refine wcond hS (b := decide ((((gi x_108 0).length : Nat) : Int) > 0)) kr (fun hb => ?_) (fun hb => ?_)
    ·replace hm := hm.1 hb
     refine rP T hS ⟨[(2, Sl a118 (gi x_108 0) c119)], [(901, (50, [Sl a121 (x_108.drop (1 : Int).toNat) c122, I x_112, I x_113, I x_114]))]⟩ fun a hS => ?_
     refine wret ?_
     exact finR T hS hO (fun c h => f0of_zero kr h) (fun c h => f0of_else (l := [(i1, 901)]) h) (f1of [(i1, 901)]) rfl (r := [.slice a118 (gi x_108 0).length c119]) kr (fun χ' hM hC => ⟨(gi x_108 0, (⟨x_108.drop (1 : Int).toNat, x_112, x_113, x_114⟩ : Verdict_reader)), hm, a118, c119, a121, c122, rfl, h120.m0 hM, h123.m0 hM, ((hS.cell (id := 901) (t := 50) (cs := [Sl a121 (x_108.drop (1 : Int).toNat) c122, I x_112, I x_113, I x_114]) kr).out (f := (f1of [(i1, 901)])) hC kr kr (hP.at 0 rfl))⟩)
    ·replace hm := hm.2 hb
     refine wskip ?_
     exact ⟨⟨x_108.drop (1 : Int).toNat, x_112, x_113, x_114⟩, ⟨ρ, _, a121, c122, hm.1, hS.sl _, hO, hP, h123⟩, hm.2⟩
   ·replace hm := hm.2 hb
    refine wexit (by rfl) ?_
    exact ⟨ρ, _, x_108, x_112, x_113, x_114, a109, c110, hm, hS.sl _, hO, hP, h111⟩
 ·rintro a w129 ⟨ρ, χ128, x_101, x_105, x_106, x_107, a102, c103, hm, hS, hO, hP, h104⟩
  unfold VC23_J1 at hm
  refine rP T hS ⟨[(2, V (.slice none 0 0))], [(901, (50, [Sl a102 x_101 c103, I x_105, I x_106, I x_107]))]⟩ fun a hS => ?_
  refine wret ?_
  exact finR T hS hO (fun c h => f0of_zero kr h) (fun c h => f0of_else (l := [(i1, 901)]) h) (f1of [(i1, 901)]) rfl (r := [.slice none 0 0]) kr (fun χ' hM hC => ⟨([], (⟨x_101, x_105, x_106, x_107⟩ : Verdict_reader)), hm, none, 0, a102, c103, rfl, RS.empty _ _ _, h104.m0 hM, ((hS.cell (id := 901) (t := 50) (cs := [Sl a102 x_101 c103, I x_105, I x_106, I x_107]) kr).out (f := (f1of [(i1, 901)])) hC kr kr (hP.at 0 rfl))⟩)
theorem C23 (v : ∀ (cap1 : Verdict_reader), VC23 cap1 (fun r => r = verdict_reader_next cap1)) : S23 := by
 intro w χ cap1 a1 c1  b1 i1 h1 hc1 hA
 refine (W23 w χ cap1 a1 c1  b1 i1 _ (v cap1) h1 hc1 hA).mono ?_
 rintro _ _ _ _ ⟨r, rfl, h⟩
 exact h
/-- (*replevin/verdict.reader).numbers -/
theorem W37 (k51 : S51) (w0 : World) (χ0 : Nat → Nat) (l_ : List Token_Token) (word : List UInt8) (lo : List Int) (hi : List Int) (cap1 : Verdict_reader) (a1 : Option Addr) (c1 : Nat) (a2 : Option Addr) (c2 : Nat) (a3 : Option Addr) (c3 : Nat) (a4 : Option Addr) (c4 : Nat) (b1 : Nat) (i1 : Nat) (Q : (List Int) × Verdict_reader → Prop) (hm : VC37 l_ word lo hi cap1 Q) (h1 : RS tToken_Token w0 χ0 a1 l_ c1) (h2 : RS tI w0 χ0 a2 lo c2) (h3 : RS tI w0 χ0 a3 hi c3) (h4 : RS (tSlice tToken_Token) w0 χ0 a4 cap1.rest c4) (hc1 : Cell w0 χ0 b1 i1 50 [.slice a4 cap1.rest.length c4, .int .i64 cap1.end_, .int .i64 cap1.at_, .int .i64 cap1.e]) (hA : Apart [i1]) :
  Ret Tryd.prog 37 #[.pointer (some ⟨b1, 0, none⟩), .slice a1 l_.length c1, .string (bs word), .slice a2 lo.length c2, .slice a3 hi.length c3] (pR [i1]) w0 χ0 (fun w χ' v => ∃ r, Q r ∧ ∃ (ra1 : Option Addr) (rc1 : Nat) (ra2 : Option Addr) (rc2 : Nat), v = .slice ra1 r.1.length rc1 ∧ RS tI w χ' ra1 r.1 rc1 ∧ RS (tSlice tToken_Token) w χ' ra2 r.2.rest rc2 ∧ Cell w χ' b1 i1 50 [.slice ra2 r.2.rest.length rc2, .int .i64 r.2.end_, .int .i64 r.2.at_, .int .i64 r.2.e]) := by
 unfold VC37 at hm
 replace hm := hm (h1.sm kr)
 replace hm := hm (h2.sm kr)
 replace hm := hm (h3.sm kr)
 replace hm := hm (h4.sm kr)
 refine enterR Tryd.func37 rfl (f0of [(i1, 901)]) (fun id => (bif Nat.beq id 901 then b1 else 0)) (args := [Pt 901 0, Sl a1 l_ c1, Z word, Sl a2 lo c2, Sl a3 hi c3]) (bxs := [(901, (50, [Sl a4 cap1.rest c4, I cap1.end_, I cap1.at_, I cap1.e]))]) kr rfl (BoxesOK.cons kr (hc1.map (f0of_at 0 hA.1 rfl)) BoxesOK.nil) (f0of_0 (fun q hq => (hA.2 q.1 (List.mem_map.2 ⟨q, hq, rfl⟩)).1)) ?_
 intro a hS hO hM
 have hP : Pin [(901, b1)] (fun id => (bif Nat.beq id 901 then b1 else 0)) := by intro q hq; simp at hq; rcases hq with rfl <;> rfl
 generalize (fun id => (bif Nat.beq id 901 then b1 else 0)) = ρ at hS hP
 clear hc1
 replace h1 := h1.m0 hM
 replace h2 := h2.m0 hM
 replace h3 := h3.m0 hM
 replace h4 := h4.m0 hM
 clear hM
 refine rP T hS ⟨[(0, Pt 901 0), (1, Sl a1 l_ c1), (2, Z word), (3, Sl a2 lo c2), (4, Sl a3 hi c3)], [(901, (50, [Sl a4 cap1.rest c4, I cap1.end_, I cap1.at_, I cap1.e]))]⟩ fun a hS => ?_
 refine wseq ?_
 refine rP T hS ⟨[(0, Pt 901 0), (1, Sl a1 l_ c1), (2, Z word), (3, Sl a2 lo c2), (4, Sl a3 hi c3), (18, B (cap1.e != 0))], [(901, (50, [Sl a4 cap1.rest c4, I cap1.end_, I cap1.at_, I cap1.e]))]⟩ fun a hS => ?_
 refine wcond hS (b := (cap1.e != 0)) kr (fun hb => ?_) (fun hb => ?_)
 ·replace hm := hm.1 hb
  refine rP T hS ⟨[(10, V (.slice none 0 0))], [(901, (50, [Sl a4 cap1.rest c4, I cap1.end_, I cap1.at_, I cap1.e]))]⟩ fun a hS => ?_
  refine wret ?_
  exact finR T hS hO (fun c h => f0of_zero kr h) (fun c h => f0of_else (l := [(i1, 901)]) h) (f1of [(i1, 901)]) rfl (r := [.slice none 0 0]) kr (fun χ' hM hC => ⟨([], cap1), hm, none, 0, a4, c4, rfl, RS.empty _ _ _, h4.m0 hM, ((hS.cell (id := 901) (t := 50) (cs := [Sl a4 cap1.rest c4, I cap1.end_, I cap1.at_, I cap1.e]) kr).out (f := (f1of [(i1, 901)])) hC kr kr (hP.at 0 rfl))⟩)
 ·replace hm := hm.2 hb
  refine wskip ?_
  refine regO ?_
  refine oP T hS 8 ⟨[(0, Pt 901 0), (20, Sl a1 l_ c1), (21, Z word), (22, Sl a2 lo c2), (23, Sl a3 hi c3), (27, I cap1.end_)], [(901, (50, [Sl a4 cap1.rest c4, I cap1.end_, I cap1.at_, I cap1.e]))]⟩ fun a hS => ?_
  obtain ⟨hq, hm⟩ := hm
  refine op1 (call hS kr kr hb51 kr (fun _ _ => rfl) (k51 _ _ l_ word lo hi cap1.end_ a1 c1 a2 c2 a3 c3 hq h1 h2 h3) ?_)
  intro v101 a w102 χ103 hE hp hS
  clear hq
  replace hO := hO.mv hE rfl rfl
  replace h1 := h1.mv hE rfl
  replace h2 := h2.mv hE rfl
  replace h3 := h3.mv hE rfl
  replace h4 := h4.mv hE rfl
  clear hE
  obtain ⟨a105, c106, hp, h107⟩ := hp
  obtain ⟨r104, hr⟩ : ∃ r, objtext_Numbers l_ word lo hi cap1.end_ = r := ⟨_, rfl⟩
  replace hm := hm r104 hr
  rw [hr] at hp h107
  clear hr
  subst hp
  replace hm := hm (h107.sm kr)
  refine eP T hS ⟨[(0, Pt 901 0), (11, Sl a105 r104.1 c106), (12, I r104.2.1), (13, I r104.2.2)], [(901, (50, [Sl a4 cap1.rest c4, I cap1.end_, I cap1.at_, I cap1.e]))]⟩ fun a hS => ?_
  refine rM T hS ⟨[(11, Sl a105 r104.1 c106)], [(901, (50, [Sl a4 cap1.rest c4, I cap1.end_, I r104.2.1, I r104.2.2]))]⟩ fun ρ a w108 χ109 hS hE hr => ?_
  replace hO := hO.mv hE rfl rfl
  replace h4 := h4.mv hE rfl
  replace h107 := h107.mv hE rfl
  replace hP := hP.mv hr kr
  clear hE hr
  refine rP T hS ⟨[(10, Sl a105 r104.1 c106)], [(901, (50, [Sl a4 cap1.rest c4, I cap1.end_, I r104.2.1, I r104.2.2]))]⟩ fun a hS => ?_
  refine wret ?_
  exact finR T hS hO (fun c h => f0of_zero kr h) (fun c h => f0of_else (l := [(i1, 901)]) h) (f1of [(i1, 901)]) rfl (r := [.slice a105 r104.1.length c106]) kr (fun χ' hM hC => ⟨(r104.1, (⟨cap1.rest, cap1.end_, r104.2.1, r104.2.2⟩ : Verdict_reader)), hm, a105, c106, a4, c4, rfl, h107.m0 hM, h4.m0 hM, ((hS.cell (id := 901) (t := 50) (cs := [Sl a4 cap1.rest c4, I cap1.end_, I r104.2.1, I r104.2.2]) kr).out (f := (f1of [(i1, 901)])) hC kr kr (hP.at 0 rfl))⟩)
theorem C37 (k51 : S51) (v : ∀ (l_ : List Token_Token) (word : List UInt8) (lo : List Int) (hi : List Int) (cap1 : Verdict_reader), preRdN l_ word lo hi cap1 → VC37 l_ word lo hi cap1 (fun r => r = verdict_reader_numbers l_ word lo hi cap1)) : S37 := by
 intro w χ l_ word lo hi cap1 a1 c1 a2 c2 a3 c3 a4 c4  b1 i1 hp h1 h2 h3 h4 hc1 hA
 refine (W37 k51 w χ l_ word lo hi cap1 a1 c1 a2 c2 a3 c3 a4 c4  b1 i1 _ (v l_ word lo hi cap1 hp) h1 h2 h3 h4 hc1 hA).mono ?_
 rintro _ _ _ _ ⟨r, rfl, h⟩
 exact h
/-- (*replevin/verdict.reader).picks$1 -/
theorem W38 (w0 : World) (χ0 : Nat → Nat) (p_ : Api_Pick) (cap1 : List Int) (a1 : Option Addr) (c1 : Nat) (b1 : Nat) (i1 : Nat) (Q : Bool → Prop) (hm : VC38 p_ cap1 Q) (h1 : RS tI w0 χ0 a1 cap1 c1) (hc1 : Cell w0 χ0 b1 i1 51 [.slice a1 cap1.length c1]) (hA : Apart [i1]) :
  Ret Tryd.prog 38 #[.agg #[.int .i64 p_.Oper, .int .i64 p_.Result], .pointer (some ⟨b1, 0, none⟩)] (pR [i1]) w0 χ0 (fun w χ' v => ∃ r, Q r ∧ v = .bool r ∧ Cell w χ' b1 i1 51 [.slice a1 cap1.length c1]) := by
 unfold VC38 at hm
 replace hm := hm (h1.sm kr)
 refine enterR Tryd.func38 rfl (f0of [(i1, 901)]) (fun id => (bif Nat.beq id 901 then b1 else 0)) (args := [V (.agg #[.int .i64 p_.Oper, .int .i64 p_.Result]), Pt 901 0]) (bxs := [(901, (51, [Sl a1 cap1 c1]))]) kr rfl (BoxesOK.cons kr (hc1.map (f0of_at 0 hA.1 rfl)) BoxesOK.nil) (f0of_0 (fun q hq => (hA.2 q.1 (List.mem_map.2 ⟨q, hq, rfl⟩)).1)) ?_
 intro a hS hO hM
 have hP : Pin [(901, b1)] (fun id => (bif Nat.beq id 901 then b1 else 0)) := by intro q hq; simp at hq; rcases hq with rfl <;> rfl
 generalize (fun id => (bif Nat.beq id 901 then b1 else 0)) = ρ at hS hP
 clear hc1
 replace h1 := h1.m0 hM
 clear hM
 refine rM T hS ⟨[(1, Pt 901 0), (2, Pt 3 0)], [(3, (39, [I p_.Oper, I p_.Result])), (901, (51, [Sl a1 cap1 c1]))]⟩ fun ρ a w106 χ107 hS hE hr => ?_
 replace hO := hO.mv hE rfl rfl
 replace h1 := h1.mv hE rfl
 replace hP := hP.mv hr kr
 clear hE hr
 refine drawnSX [3, 901] mixed hS ?_
 intro w101 χ102 hS hE hD hH
 replace hO := hO.mv hE rfl rfl
 replace h1 := h1.mv hE rfl
 clear hE
 refine tk T [0, 2, 1] [3, 901] hS hH #[true, true, true, false, false, false, false] 4 ⟨[(5, I p_.Oper), (6, Sl a1 cap1 c1)], [(3, (39, [I p_.Oper, I p_.Result])), (901, (51, [Sl a1 cap1 c1]))]⟩ fun a hS => ?_
 obtain ⟨hq, hm⟩ := hm
 refine dindex (e := 3) (k := .i64) T 3 hS kr kr kr (by rfl) kr hH kr kr h1 kr kr hq.1 hq.2 ?_
 intro A103 a h104 hS
 clear hq
 have h104b := h104.here
 refine dload1 T 4 hS kr kr kr (by rfl) kr hH kr h104 h104b rfl kr ?_
 intro v105 a hv hS
 cases hv
 refine tk T [5, 6] [3, 901] hS hH #[true, true, true, true, true, true, true] 0 ⟨[(3, B (p_.Oper == (gi cap1 0)))], [(3, (39, [I p_.Oper, I p_.Result])), (901, (51, [Sl a1 cap1 c1]))]⟩ fun a hS => ?_
 refine drawnDone kr ?_
 clear hD hH
 replace hS := hS.sl ⟨[(3, B (p_.Oper == (gi cap1 0)))], [(901, (51, [Sl a1 cap1 c1]))]⟩
 refine wret ?_
 exact finR T hS hO (fun c h => f0of_zero kr h) (fun c h => f0of_else (l := [(i1, 901)]) h) (f1of [(i1, 901)]) rfl (r := [.bool (p_.Oper == (gi cap1 0))]) kr (fun χ' hM hC => ⟨(p_.Oper == (gi cap1 0)), hm, rfl, ((hS.cell (id := 901) (t := 51) (cs := [Sl a1 cap1 c1]) kr).out (f := (f1of [(i1, 901)])) hC kr kr (hP.at 0 rfl))⟩)
theorem C38 (v : ∀ (p_ : Api_Pick) (cap1 : List Int), preP1 p_ cap1 → VC38 p_ cap1 (fun r => r = verdict_reader_picks_1 p_ cap1)) : S38 := by
 intro w χ p_ cap1 a1 c1  b1 i1 hp h1 hc1 hA
 refine (W38 w χ p_ cap1 a1 c1  b1 i1 _ (v p_ cap1 hp) h1 hc1 hA).mono ?_
 rintro _ _ _ _ ⟨r, rfl, h⟩
 exact h
/-- slices.IndexFunc[[]replevin/api.Pick,replevin/api.Pick] -/
theorem W47_38 (k38 : S38) (w0 : World) (χ0 : Nat → Nat) (s_ : List Api_Pick) (cap1 : List Int) (a1 : Option Addr) (c1 : Nat) (a2 : Option Addr) (c2 : Nat) (b1 : Nat) (i1 : Nat) (Q : Int → Prop) (hm : VC47_38 s_ cap1 Q) (h1 : RS tApi_Pick w0 χ0 a1 s_ c1) (h2 : RS tI w0 χ0 a2 cap1 c2) (hc1 : Cell w0 χ0 b1 i1 51 [.slice a2 cap1.length c2]) (hA : Apart [i1]) :
  Ret Tryd.prog 47 #[.slice a1 s_.length c1, .func (.func 38) #[] #[.pointer (some ⟨b1, 0, none⟩)]] (pR [i1]) w0 χ0 (fun w χ' v => ∃ r, Q r ∧ v = .int .i64 r ∧ Cell w χ' b1 i1 51 [.slice a2 cap1.length c2]) := by
 unfold VC47_38 at hm
 replace hm := hm (h1.sm kr)
 replace hm := hm (h2.sm kr)
 refine enterR Tryd.func47 rfl (f0of [(i1, 901)]) (fun id => (bif Nat.beq id 901 then b1 else 0)) (args := [Sl a1 s_ c1, .f (.func 38) [] [.p 901 0]]) (bxs := [(901, (51, [Sl a2 cap1 c2]))]) kr rfl (BoxesOK.cons kr (hc1.map (f0of_at 0 hA.1 rfl)) BoxesOK.nil) (f0of_0 (fun q hq => (hA.2 q.1 (List.mem_map.2 ⟨q, hq, rfl⟩)).1)) ?_
 intro a hS hO hM
 have hP : Pin [(901, b1)] (fun id => (bif Nat.beq id 901 then b1 else 0)) := by intro q hq; simp at hq; rcases hq with rfl <;> rfl
 generalize (fun id => (bif Nat.beq id 901 then b1 else 0)) = ρ at hS hP
 clear hc1
 replace h1 := h1.m0 hM
 replace h2 := h2.m0 hM
 clear hM
 refine rP T hS ⟨[(0, Sl a1 s_ c1), (1, .f (.func 38) [] [.p 901 0])], [(901, (51, [Sl a2 cap1 c2]))]⟩ fun a hS => ?_
 refine wcut (fun a w => ∃ (ρ : Nat → Nat) (χ : Nat → Nat), VC47_38_J1 Q ∧ St Tryd.f47.ntmps ⟨[], [(901, (51, [Sl a2 cap1 c2]))]⟩ ρ a w χ ∧ OldR (f0of [(i1, 901)]) w0 χ0 w χ ∧ Pin [(901, b1)] ρ ∧ RS tI w χ a2 cap1 c2) ?_ ?_
 ·refine rP T hS ⟨[(0, Sl a1 s_ c1), (1, .f (.func 38) [] [.p 901 0]), (7, I ((s_.length : Nat) : Int)), (8, I 0)], [(901, (51, [Sl a2 cap1 c2]))]⟩ fun a hS => ?_
  refine wblock ?_
  obtain ⟨I1, μ1, hm0, hm⟩ := hm
  refine wloop (σ := Int) (fun s a w => ∃ (ρ : Nat → Nat) (χ : Nat → Nat), I1 s ∧ St Tryd.f47.ntmps ⟨[(0, Sl a1 s_ c1), (1, .f (.func 38) [] [.p 901 0]), (7, I ((s_.length : Nat) : Int)), (8, I s)], [(901, (51, [Sl a2 cap1 c2]))]⟩ ρ a w χ ∧ OldR (f0of [(i1, 901)]) w0 χ0 w χ ∧ Pin [(901, b1)] ρ ∧ RS tApi_Pick w χ a1 s_ c1 ∧ RS tI w χ a2 cap1 c2) (fun s => μ1 s) (0) ?_ ?_
  ·exact ⟨ρ, _, hm0, hS.sl _, hO, hP, h1, h2⟩
  ·rintro x_103 a w114 ⟨ρ, χ113, hI, hS, hO, hP, h102, h104⟩
   replace hm := hm x_103 hI
   clear hI hm0
   refine rP T hS ⟨[(0, Sl a1 s_ c1), (1, .f (.func 38) [] [.p 901 0]), (7, I ((s_.length : Nat) : Int)), (8, I x_103), (9, B (decide (x_103 < ((s_.length : Nat) : Int))))], [(901, (51, [Sl a2 cap1 c2]))]⟩ fun a hS => ?_
   refine wseq ?_
   refine wcond hS (b := decide (x_103 < ((s_.length : Nat) : Int))) kr (fun hb => ?_) (fun hb => ?_)
   ·replace hm := hm.1 hb
    refine wskip ?_
    refine wseq ?_
    refine wblock ?_
    refine rP T hS ⟨[(0, Sl a1 s_ c1), (1, .f (.func 38) [] [.p 901 0]), (5, I x_103), (7, I ((s_.length : Nat) : Int)), (8, I x_103)], [(901, (51, [Sl a2 cap1 c2]))]⟩ fun a hS => ?_
    refine regO ?_
    refine oP T hS 3 ⟨[(0, Sl a1 s_ c1), (1, .f (.func 38) [] [.p 901 0]), (5, I x_103), (7, I ((s_.length : Nat) : Int)), (8, I x_103), (11, .f (.func 38) [] [.p 901 0]), (12, Sl a1 s_ c1), (13, I x_103)], [(901, (51, [Sl a2 cap1 c2]))]⟩ fun a hS => ?_
    obtain ⟨hq, hm⟩ := hm
    refine op1 (index (e := 39) (k := .i64) T hS kr kr kr kr h102 kr kr hq.1 hq.2 ?_)
    intro A105 a h106 hS
    clear hq
    refine op1 (loadA T hS kr kr kr h106 kr kr ?_)
    intro v107 a hv hS
    subst hv
    obtain ⟨hq, hm⟩ := hm
    refine op1 (callCR (fi := []) (cp := [.p 901 0]) hS kr kr hb38 kr kr (k38 _ _ (gi s_ x_103) cap1 a2 c2 (ρ 901) 901 hq h104 (hS.cell (id := 901) (t := 51) (cs := [Sl a2 cap1 c2]) kr) ⟨by decide, by decide⟩) ?_)
    intro v108 a w109 χ110 hE hp hS
    clear hq
    replace hO := hO.mv hE rfl rfl
    replace h102 := h102.mv hE rfl
    replace h104 := h104.mv hE rfl
    replace h106 := h106.mv hE rfl
    clear hE
    obtain ⟨hp, hc112⟩ := hp
    obtain ⟨r111, hr⟩ : ∃ r, verdict_reader_picks_1 (gi s_ x_103) cap1 = r := ⟨_, rfl⟩
    replace hm := hm r111 hr
    rw [hr] at hp
    clear hr
    subst hp
    replace hS := hS.addbox (id := 901) (t := 51) (cs := [Sl a2 cap1 c2]) kr hc112
    clear hc112
    refine doneK ?_
    refine wcond hS (b := r111) kr (fun hb => ?_) (fun hb => ?_)
    ·replace hm := hm.1 hb
     refine rP T hS ⟨[(4, I x_103)], [(901, (51, [Sl a2 cap1 c2]))]⟩ fun a hS => ?_
     refine wret ?_
     exact finR T hS hO (fun c h => f0of_zero kr h) (fun c h => f0of_else (l := [(i1, 901)]) h) (f1of [(i1, 901)]) rfl (r := [.int .i64 x_103]) kr (fun χ' hM hC => ⟨x_103, hm, rfl, ((hS.cell (id := 901) (t := 51) (cs := [Sl a2 cap1 c2]) kr).out (f := (f1of [(i1, 901)])) hC kr kr (hP.at 0 rfl))⟩)
    ·replace hm := hm.2 hb
     refine wskip ?_
     refine region (eP T hS ⟨[(0, Sl a1 s_ c1), (1, .f (.func 38) [] [.p 901 0]), (7, I ((s_.length : Nat) : Int)), (8, I (IntKind.i64.wrap (x_103 + 1)))], [(901, (51, [Sl a2 cap1 c2]))]⟩ fun a hS => ?_)
     exact ⟨IntKind.i64.wrap (x_103 + 1), ⟨ρ, _, hm.1, hS.sl _, hO, hP, h102, h104⟩, hm.2⟩
   ·replace hm := hm.2 hb
    refine wexit (by rfl) ?_
    exact ⟨ρ, _, hm, hS.sl _, hO, hP, h104⟩
 ·rintro a w116 ⟨ρ, χ115, hm, hS, hO, hP, h101⟩
  unfold VC47_38_J1 at hm
  refine rP T hS ⟨[(4, I (-1))], [(901, (51, [Sl a2 cap1 c2]))]⟩ fun a hS => ?_
  refine wret ?_
  exact finR T hS hO (fun c h => f0of_zero kr h) (fun c h => f0of_else (l := [(i1, 901)]) h) (f1of [(i1, 901)]) rfl (r := [.int .i64 (-1)]) kr (fun χ' hM hC => ⟨(-1), hm, rfl, ((hS.cell (id := 901) (t := 51) (cs := [Sl a2 cap1 c2]) kr).out (f := (f1of [(i1, 901)])) hC kr kr (hP.at 0 rfl))⟩)
theorem C47_38 (k38 : S38) (v : ∀ (s_ : List Api_Pick) (cap1 : List Int), preP1I s_ cap1 → VC47_38 s_ cap1 (fun r => r = slices_IndexFunc_api_Pick_api_Pick_verdict_reader_picks_1 s_ cap1)) : S47_38 := by
 intro w χ s_ cap1 a1 c1 a2 c2  b1 i1 hp h1 h2 hc1 hA
 refine (W47_38 k38 w χ s_ cap1 a1 c1 a2 c2  b1 i1 _ (v s_ cap1 hp) h1 h2 hc1 hA).mono ?_
 rintro _ _ _ _ ⟨r, rfl, h⟩
 exact h
end Go.Proofs.YtkgcdoeldilhaaaDoor
