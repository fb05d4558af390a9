/- Walks: each function returns what its condition asks. Condition: the contracts of its callees, handed in. -/
import Derived.Test.YtcjldfbgccmpkaaDoorHWalksS
set_option linter.all false
namespace Go.Proofs.YtcjldfbgccmpkaaDoor
open Go Go.Sv
set_option maxHeartbeats 1000000
/-- slices.Repeat[[]int,int] -/
theorem W65 (k77 : S77) (w0 : World) (χ0 : Nat → Nat) (x_ : List Int) (count : Int) (a1 : Option Addr) (c1 : Nat) (Q : (List Int) → Prop) (hm : VC65 x_ count Q) (h1 : RS tI w0 χ0 a1 x_ c1) :
  Ret Tryd.prog 65 #[.slice a1 x_.length c1, .int .i64 count] xnone w0 χ0 (fun w χ' v => ∃ r, Q r ∧ ∃ (ra1 : Option Addr) (rc1 : Nat), v = .slice ra1 r.length rc1 ∧ RS tI w χ' ra1 r rc1) := by
 unfold VC65 at hm
 replace hm := hm (h1.sm kr)
 refine enter Tryd.func65 rfl (vals := [.slice a1 x_.length c1, .int .i64 count]) kr ?_
 intro ρ a hS hO hM
 replace h1 := h1.m0 hM
 clear hM
 refine rP T hS ⟨[(0, Sl a1 x_ c1), (1, I count)], []⟩ fun a hS => ?_
 refine wseq ?_
 refine rP T hS ⟨[(0, Sl a1 x_ c1), (1, I count), (10, B (decide (count < 0)))], []⟩ fun a hS => ?_
 refine wcond hS (b := decide (count < 0)) kr (fun hb => ?_) (fun hb => ?_)
 ·replace hm := hm.1 hb
  exact hm.elim
 ·replace hm := hm.2 hb
  refine wskip ?_
  refine regO ?_
  refine oP T hS 5 ⟨[(0, Sl a1 x_ c1), (15, V (.int .u64 (IntKind.u64.wrap ((x_.length : Nat) : Int)))), (17, V (.int .u64 (IntKind.u64.wrap count)))], []⟩ fun a hS => ?_
  obtain ⟨hq, hm⟩ := hm
  refine op1 (call hS kr kr hb77 kr (fun _ _ => rfl) (k77 _ _ (IntKind.u64.wrap ((x_.length : Nat) : Int)) (IntKind.u64.wrap count) hq) ?_)
  intro v101 a w102 χ103 hE hp hS
  clear hq
  replace hO := hO.mv hE rfl rfl
  replace h1 := h1.mv hE rfl
  clear hE
  obtain ⟨r104, hr⟩ : ∃ r, math_bits_Mul (IntKind.u64.wrap ((x_.length : Nat) : Int)) (IntKind.u64.wrap count) = r := ⟨_, rfl⟩
  replace hm := hm r104 hr
  rw [hr] at hp
  clear hr
  subst hp
  refine eP T hS ⟨[(0, Sl a1 x_ c1), (5, V (.int .u64 r104.1)), (6, V (.int .u64 r104.2))], []⟩ fun a hS => ?_
  refine wseq ?_
  refine rP T hS ⟨[(0, Sl a1 x_ c1), (6, V (.int .u64 r104.2)), (26, B ((decide (r104.1 > 0)) || (decide (r104.2 > 9223372036854775807))))], []⟩ (sp := [23]) fun a hS => ?_
  refine wcond hS (b := ((decide (r104.1 > 0)) || (decide (r104.2 > 9223372036854775807)))) kr (fun hb => ?_) (fun hb => ?_)
  ·replace hm := hm.1 hb
   exact hm.elim
  ·replace hm := hm.2 hb
   refine wskip ?_
   refine regO ?_
   refine oP T hS 2 ⟨[(0, Sl a1 x_ c1), (29, I (IntKind.i64.wrap r104.2))], []⟩ fun a hS => ?_
   obtain ⟨hq, hm⟩ := hm
   refine op1 (make (E := 3) (kl := .i64) (kc := .i64) (col := 1005) (T := tI) T 0 hS kr kr kr kr kr kr hq.1 hq.2.1 (by have := hq.2.2; have e_ : ((tI.bytes : Nat) : Int) = 8 := rfl; rw [e_]; omega) (by have := hq.2.2; omega) (fun _ _ => rfl) ?_)
   intro b105 a w106 χ107 hE h108 hN hS
   clear hq hN
   replace hO := hO.mv hE rfl rfl
   replace h1 := h1.mv hE rfl
   clear hE
   replace hS := hS.conv (t := 30) (y := .slice (some ⟨b105, 0, none⟩) (List.replicate (IntKind.i64.wrap r104.2).toNat (0 : Int)).length (IntKind.i64.wrap r104.2).toNat) kr (by rw [List.length_replicate])
   refine eP T hS ⟨[(0, Sl a1 x_ c1), (7, V (.slice (some ⟨b105, 0, none⟩) (List.replicate (IntKind.i64.wrap r104.2).toNat (0 : Int)).length (IntKind.i64.wrap r104.2).toNat))], []⟩ fun a hS => ?_
   refine regO ?_
   refine oP T hS 2 ⟨[(7, V (.slice (some ⟨b105, 0, none⟩) (List.replicate (IntKind.i64.wrap r104.2).toNat (0 : Int)).length (IntKind.i64.wrap r104.2).toNat)), (31, V (.slice (some ⟨b105, 0, none⟩) (List.replicate (IntKind.i64.wrap r104.2).toNat (0 : Int)).length (IntKind.i64.wrap r104.2).toNat)), (32, Sl a1 x_ c1)], []⟩ fun a hS => ?_
   obtain ⟨news, hN⟩ := h1.src
   refine op1 (copyO (E := 3) (T := tI) (xs := List.replicate (IntKind.i64.wrap r104.2).toNat (0 : Int)) (ys := x_) (l := 0) (cx := (IntKind.i64.wrap r104.2).toNat) T hS kr kr kr (adAt_zero h108) kr h108 hN kr kr kr (Nat.zero_le _) ?_)
   intro a w109 hE h110 hS
   clear hN h108
   replace hO := hO.mv hE rfl rfl
   replace h1 := h1.mv hE rfl
   clear hE
   replace hS := hS.conv (t := 7) (x := .slice (some ⟨b105, 0, none⟩) (List.replicate (IntKind.i64.wrap r104.2).toNat (0 : Int)).length (IntKind.i64.wrap r104.2).toNat) (y := .slice (some ⟨b105, 0, none⟩) ((List.replicate (IntKind.i64.wrap r104.2).toNat (0 : Int)).take 0 ++ x_.take ((List.replicate (IntKind.i64.wrap r104.2).toNat (0 : Int)).length - 0) ++ (List.replicate (IntKind.i64.wrap r104.2).toNat (0 : Int)).drop (0 + min x_.length ((List.replicate (IntKind.i64.wrap r104.2).toNat (0 : Int)).length - 0))).length (IntKind.i64.wrap r104.2).toNat) kr (by simp only [List.length_append, List.length_take, List.length_drop]; congr 1 <;> omega)
   replace hS := hS.conv (t := 31) (x := .slice (some ⟨b105, 0, none⟩) (List.replicate (IntKind.i64.wrap r104.2).toNat (0 : Int)).length (IntKind.i64.wrap r104.2).toNat) (y := .slice (some ⟨b105, 0, none⟩) ((List.replicate (IntKind.i64.wrap r104.2).toNat (0 : Int)).take 0 ++ x_.take ((List.replicate (IntKind.i64.wrap r104.2).toNat (0 : Int)).length - 0) ++ (List.replicate (IntKind.i64.wrap r104.2).toNat (0 : Int)).drop (0 + min x_.length ((List.replicate (IntKind.i64.wrap r104.2).toNat (0 : Int)).length - 0))).length (IntKind.i64.wrap r104.2).toNat) kr (by simp only [List.length_append, List.length_take, List.length_drop]; congr 1 <;> omega)
   refine eP T hS ⟨[(7, V (.slice (some ⟨b105, 0, none⟩) ((List.replicate (IntKind.i64.wrap r104.2).toNat (0 : Int)).take 0 ++ x_.take ((List.replicate (IntKind.i64.wrap r104.2).toNat (0 : Int)).length - 0) ++ (List.replicate (IntKind.i64.wrap r104.2).toNat (0 : Int)).drop (0 + min x_.length ((List.replicate (IntKind.i64.wrap r104.2).toNat (0 : Int)).length - 0))).length (IntKind.i64.wrap r104.2).toNat)), (8, I ((min x_.length ((List.replicate (IntKind.i64.wrap r104.2).toNat (0 : Int)).length - 0) : Nat) : Int))], []⟩ fun a hS => ?_
   refine wcut (fun a w => ∃ (ρ : Nat → Nat) (χ : Nat → Nat) (newslice_111 : List Int) (a112 : Option Addr) (c113 : Nat), VC65_J1 Q newslice_111 ∧ St Tryd.f65.ntmps ⟨[(7, Sl a112 newslice_111 c113)], []⟩ ρ a w χ ∧ Old w0 χ0 w χ ∧ OS tI 3 w χ 1005 a112 newslice_111 c113) ?_ ?_
   ·refine wblock ?_
    obtain ⟨I1, μ1, hm0, hm⟩ := hm
    refine wloop (σ := (List Int) × Int) (fun s a w => ∃ (ρ : Nat → Nat) (χ : Nat → Nat) (a118 : Option Addr) (c119 : Nat), I1 s.1 s.2 ∧ St Tryd.f65.ntmps ⟨[(7, Sl a118 s.1 c119), (8, I s.2)], []⟩ ρ a w χ ∧ Old w0 χ0 w χ ∧ OS tI 3 w χ 1005 a118 s.1 c119) (fun s => μ1 s.1 s.2) (⟨(List.replicate (IntKind.i64.wrap r104.2).toNat (0 : Int)).take 0 ++ x_.take ((List.replicate (IntKind.i64.wrap r104.2).toNat (0 : Int)).length - 0) ++ (List.replicate (IntKind.i64.wrap r104.2).toNat (0 : Int)).drop (0 + min x_.length ((List.replicate (IntKind.i64.wrap r104.2).toNat (0 : Int)).length - 0)), ((min x_.length ((List.replicate (IntKind.i64.wrap r104.2).toNat (0 : Int)).length - 0) : Nat) : Int)⟩) ?_ ?_
    ·exact ⟨ρ, _, (some ⟨b105, 0, none⟩), (IntKind.i64.wrap r104.2).toNat, hm0, hS.sl _, hO, h110⟩
    ·rintro ⟨newslice_117, n_121⟩ a w129 ⟨ρ, χ128, a118, c119, hI, hS, hO, h120⟩
     replace hm := hm newslice_117 n_121 hI
     clear hI hm0
     refine wseq ?_
     refine rP T hS ⟨[(7, Sl a118 newslice_117 c119), (8, I n_121), (37, B (decide (n_121 < ((newslice_117.length : Nat) : Int))))], []⟩ fun a hS => ?_
     refine wcond hS (b := decide (n_121 < ((newslice_117.length : Nat) : Int))) kr (fun hb => ?_) (fun hb => ?_)
     ·replace hm := hm.1 hb
      refine wskip ?_
      refine wblock ?_
      refine drawnX [] mixed hS ?_
      intro w122 χ123 hS hE hD hH
      replace hO := hO.mv hE rfl rfl
      replace h120 := h120.mv hE rfl rfl
      clear hE
      refine tk T [0, 1, 2, 4, 5] [] hS hH #[true, true, true, false, true, true, false, false, false, false] 5 ⟨[(7, Sl a118 newslice_117 c119), (8, I n_121), (38, I n_121), (39, Sl a118 newslice_117 c119), (40, I n_121), (42, Sl a118 newslice_117 c119), (43, I n_121)], []⟩ fun a hS => ?_
      obtain ⟨hq124, hm⟩ := hm
      refine dsliceL (E := 3) (k := .i64) (l := n_121) T 3 hS kr kr kr (by rfl) kr hH kr kr h120 kr kr hq124.1 hq124.2 ?_
      intro a hS
      obtain ⟨hq125, hm⟩ := hm
      refine dsliceH (E := 3) (k := .i64) (l := n_121) T 6 hS kr kr kr (by rfl) kr hH kr kr h120 kr kr hq125.1 hq125.2 ?_
      intro a hS
      obtain ⟨news, hN⟩ := (h120.srcTake n_121.toNat)
      refine only 7 kr (by rfl) (copyO (E := 3) (T := tI) (xs := newslice_117) (ys := newslice_117.take n_121.toNat) (l := n_121.toNat) (cx := c119 - n_121.toNat) T hS kr kr kr rfl kr h120 hN kr kr kr (by have := hq124.1; have := hq124.2; omega) ?_)
      intro a w126 hE h127 hS
      clear hN h120
      replace hO := hO.mv hE rfl rfl
      replace hD := hD.ev hE rfl
      clear hE
      replace hS := hS.conv (t := 7) (x := .slice a118 newslice_117.length c119) (y := .slice a118 (newslice_117.take n_121.toNat ++ (newslice_117.take n_121.toNat).take (newslice_117.length - n_121.toNat) ++ newslice_117.drop (n_121.toNat + min (newslice_117.take n_121.toNat).length (newslice_117.length - n_121.toNat))).length c119) kr (by have := hq124.1; have := hq124.2; simp only [List.length_append, List.length_take, List.length_drop]; congr 1 <;> omega)
      replace hS := hS.conv (t := 39) (x := .slice a118 newslice_117.length c119) (y := .slice a118 (newslice_117.take n_121.toNat ++ (newslice_117.take n_121.toNat).take (newslice_117.length - n_121.toNat) ++ newslice_117.drop (n_121.toNat + min (newslice_117.take n_121.toNat).length (newslice_117.length - n_121.toNat))).length c119) kr (by have := hq124.1; have := hq124.2; simp only [List.length_append, List.length_take, List.length_drop]; congr 1 <;> omega)
      replace hS := hS.conv (t := 42) (x := .slice a118 newslice_117.length c119) (y := .slice a118 (newslice_117.take n_121.toNat ++ (newslice_117.take n_121.toNat).take (newslice_117.length - n_121.toNat) ++ newslice_117.drop (n_121.toNat + min (newslice_117.take n_121.toNat).length (newslice_117.length - n_121.toNat))).length c119) kr (by have := hq124.1; have := hq124.2; simp only [List.length_append, List.length_take, List.length_drop]; congr 1 <;> omega)
      refine andH (Hold.of hS (bks := []) kr hD) ?_
      intro hH
      refine tk T [8, 9] [] hS hH #[true, true, true, true, true, true, true, true, true, true] 0 ⟨[(7, Sl a118 (newslice_117.take n_121.toNat ++ (newslice_117.take n_121.toNat).take (newslice_117.length - n_121.toNat) ++ newslice_117.drop (n_121.toNat + min (newslice_117.take n_121.toNat).length (newslice_117.length - n_121.toNat))) c119), (8, I (IntKind.i64.wrap (n_121 + ((min (newslice_117.take n_121.toNat).length (newslice_117.length - n_121.toNat) : Nat) : Int))))], []⟩ fun a hS => ?_
      refine drawnDone kr ?_
      clear hD hH
      replace hS := hS.sl ⟨[(7, Sl a118 (newslice_117.take n_121.toNat ++ (newslice_117.take n_121.toNat).take (newslice_117.length - n_121.toNat) ++ newslice_117.drop (n_121.toNat + min (newslice_117.take n_121.toNat).length (newslice_117.length - n_121.toNat))) c119), (8, I (IntKind.i64.wrap (n_121 + ((min (newslice_117.take n_121.toNat).length (newslice_117.length - n_121.toNat) : Nat) : Int))))], []⟩
      exact ⟨⟨newslice_117.take n_121.toNat ++ (newslice_117.take n_121.toNat).take (newslice_117.length - n_121.toNat) ++ newslice_117.drop (n_121.toNat + min (newslice_117.take n_121.toNat).length (newslice_117.length - n_121.toNat)), IntKind.i64.wrap (n_121 + ((min (newslice_117.take n_121.toNat).length (newslice_117.length - n_121.toNat) : Nat) : Int))⟩, ⟨ρ, _, a118, c119, hm.1, hS.sl _, hO, h127⟩, hm.2⟩
     ·replace hm := hm.2 hb
      refine wexit (by rfl) ?_
      exact ⟨ρ, _, newslice_117, a118, c119, hm, hS.sl _, hO, h120⟩
   ·rintro a w131 ⟨ρ, χ130, newslice_111, a112, c113, hm, hS, hO, h114⟩
    unfold VC65_J1 at hm
    refine rP T hS ⟨[(4, Sl a112 newslice_111 c113)], []⟩ fun a hS => ?_
    refine wret ?_
    obtain ⟨χ115, hE, hF⟩ := h114.freeze (by decide)
    replace hS := hS.ev hE (xone_box kr)
    replace hO := hO.mv hE rfl rfl
    have h116 := hF; clear hE hF
    exact fin T hS hO (fun c => c) rfl (r := [.slice a112 newslice_111.length c113]) kr (fun χ' hM hC => ⟨newslice_111, hm, a112, c113, rfl, h116.m0 hM⟩)
theorem C65 (k77 : S77) (v : ∀ (x_ : List Int) (count : Int), preRep x_ count → VC65 x_ count (fun r => r = slices_Repeat_int_int x_ count)) : S65 := by
 intro w χ x_ count a1 c1   hp h1
 refine (W65 k77 w χ x_ count a1 c1   _ (v x_ count hp) h1).mono ?_
 rintro _ _ _ _ ⟨r, rfl, h⟩
 exact h
/-- replevin/objtext.bounds$1 -/
theorem W64 (k65 : S65) (w0 : World) (χ0 : Nat → Nat) (x_ : Int) (cap1 : Int) (b1 : Nat) (i1 : Nat) (Q : (List Int) → Prop) (hm : VC64 x_ cap1 Q) (hc1 : Cell w0 χ0 b1 i1 3 [.int .i64 cap1]) (hA : Apart [i1]) :
  Ret Tryd.prog 64 #[.int .i64 x_, .pointer (some ⟨b1, 0, none⟩)] (pR [i1]) w0 χ0 (fun w χ' v => ∃ r, Q r ∧ ∃ (ra1 : Option Addr) (rc1 : Nat), v = .slice ra1 r.length rc1 ∧ RS tI w χ' ra1 r rc1 ∧ Cell w χ' b1 i1 3 [.int .i64 cap1]) := by
 unfold VC64 at hm
 refine enterR Tryd.func64 rfl (f0of [(i1, 901)]) (fun id => (bif Nat.beq id 901 then b1 else 0)) (args := [I x_, Pt 901 0]) (bxs := [(901, (3, [I cap1]))]) kr rfl (BoxesOK.cons kr (hc1.map (f0of_at 0 hA.1 rfl)) BoxesOK.nil) (f0of_0 (fun q hq => (hA.2 q.1 (List.mem_map.2 ⟨q, hq, rfl⟩)).1)) ?_
 intro a hS hO hM
 have hP : Pin [(901, b1)] (fun id => (bif Nat.beq id 901 then b1 else 0)) := by intro q hq; simp at hq; rcases hq with rfl <;> rfl
 generalize (fun id => (bif Nat.beq id 901 then b1 else 0)) = ρ at hS hP
 clear hc1
 clear hM
 refine rP T hS ⟨[(0, I x_), (1, Pt 901 0)], [(901, (3, [I cap1]))]⟩ fun a hS => ?_
 refine regO ?_
 refine oP T hS 1 ⟨[(1, Pt 901 0), (4, I x_)], [(901, (3, [I cap1]))]⟩ fun a hS => ?_
 refine op1 (lit (E := 3) (col := 0) (T := tI) (vals := [.int .i64 x_]) (ys := [x_]) T hS kr kr kr kr (by exact ⟨rfl, trivial⟩) rfl kr kr kr kr ?_)
 intro b101 a w102 χ103 hE h104 hN hS
 clear hN
 replace hO := hO.mv hE rfl rfl
 clear hE
 replace h104 := h104.rs0
 refine oP T hS 1 ⟨[(5, Sl (some ⟨b101, 0, none⟩) [x_] 1), (6, I cap1)], [(901, (3, [I cap1]))]⟩ fun a hS => ?_
 obtain ⟨hq, hm⟩ := hm
 refine op1 (call hS kr kr hb65 kr (fun _ _ => rfl) (k65 _ _ [x_] cap1 (some ⟨b101, 0, none⟩) 1 hq h104) ?_)
 intro v105 a w106 χ107 hE hp hS
 clear hq
 replace hO := hO.mv hE rfl rfl
 replace h104 := h104.mv hE rfl
 clear hE
 obtain ⟨a109, c110, hp, h111⟩ := hp
 obtain ⟨r108, hr⟩ : ∃ r, slices_Repeat_int_int [x_] cap1 = r := ⟨_, rfl⟩
 replace hm := hm r108 hr
 rw [hr] at hp h111
 clear hr
 subst hp
 replace hm := hm (h111.sm kr)
 refine eP T hS ⟨[(3, Sl a109 r108 c110)], [(901, (3, [I cap1]))]⟩ fun a hS => ?_
 refine wret ?_
 exact finR T hS hO (fun c h => f0of_zero kr h) (fun c h => f0of_else (l := [(i1, 901)]) h) (f1of [(i1, 901)]) rfl (r := [.slice a109 r108.length c110]) kr (fun χ' hM hC => ⟨r108, hm, a109, c110, rfl, h111.m0 hM, ((hS.cell (id := 901) (t := 3) (cs := [I cap1]) kr).out (f := (f1of [(i1, 901)])) hC kr kr (hP.at 0 rfl))⟩)
theorem C64 (k65 : S65) (v : ∀ (x_ : Int) (cap1 : Int), preB1 x_ cap1 → VC64 x_ cap1 (fun r => r = objtext_bounds_1 x_ cap1)) : S64 := by
 intro w χ x_ cap1   b1 i1 hp hc1 hA
 refine (W64 k65 w χ x_ cap1   b1 i1 _ (v x_ cap1 hp) hc1 hA).mono ?_
 rintro _ _ _ _ ⟨r, rfl, h⟩
 exact h
/-- replevin/objtext.bounds -/
theorem W40 (k64 : S64) (w0 : World) (χ0 : Nat → Nat) (n_ : Int) (Q : (List Int) × (List Int) → Prop) (hm : VC40 n_ Q) :
  Ret Tryd.prog 40 #[.int .i64 n_] xnone w0 χ0 (fun w χ' v => ∃ r, Q r ∧ ∃ (ra1 : Option Addr) (rc1 : Nat) (ra2 : Option Addr) (rc2 : Nat), v = .tuple #[.slice ra1 r.1.length rc1, .slice ra2 r.2.length rc2] ∧ RS tI w χ' ra1 r.1 rc1 ∧ RS tI w χ' ra2 r.2 rc2) := by
 unfold VC40 at hm
 refine enter Tryd.func40 rfl (vals := [.int .i64 n_]) kr ?_
 intro ρ a hS hO hM
 clear hM
 refine rM T hS ⟨[(1, Pt 2 0)], [(2, (3, [I n_]))]⟩ fun ρ a w117 χ118 hS hE hr => ?_
 replace hO := hO.mv hE rfl rfl
 clear hE hr
 refine rP T hS ⟨[(4, .f (.func 64) [] [.p 2 0])], [(2, (3, [I n_]))]⟩ fun a hS => ?_
 refine regO ?_
 refine oP T hS 1 ⟨[(4, .f (.func 64) [] [.p 2 0]), (6, .f (.func 64) [] [.p 2 0])], [(2, (3, [I n_]))]⟩ fun a hS => ?_
 obtain ⟨hq, hm⟩ := hm
 refine op1 (callCR (fi := []) (cp := [.p 2 0]) hS kr kr hb64 kr kr (k64 _ _ 0 n_ (ρ 2) 2 hq (hS.cell (id := 2) (t := 3) (cs := [I n_]) kr) ⟨by decide, by decide⟩) ?_)
 intro v101 a w102 χ103 hE hp hS
 clear hq
 replace hO := hO.mv hE rfl rfl
 clear hE
 obtain ⟨a105, c106, hp, h107, hc108⟩ := hp
 obtain ⟨r104, hr⟩ : ∃ r, objtext_bounds_1 0 n_ = r := ⟨_, rfl⟩
 replace hm := hm r104 hr
 rw [hr] at hp h107
 clear hr
 subst hp
 replace hm := hm (h107.sm kr)
 replace hS := hS.addbox (id := 2) (t := 3) (cs := [I n_]) kr hc108
 clear hc108
 refine oP T hS 1 ⟨[(7, Sl a105 r104 c106), (8, .f (.func 64) [] [.p 2 0])], [(2, (3, [I n_]))]⟩ fun a hS => ?_
 obtain ⟨hq, hm⟩ := hm
 refine op1 (callCR (fi := []) (cp := [.p 2 0]) hS kr kr hb64 kr kr (k64 _ _ 1000000 n_ (ρ 2) 2 hq (hS.cell (id := 2) (t := 3) (cs := [I n_]) kr) ⟨by decide, by decide⟩) ?_)
 intro v109 a w110 χ111 hE hp hS
 clear hq
 replace hO := hO.mv hE rfl rfl
 replace h107 := h107.mv hE rfl
 clear hE
 obtain ⟨a113, c114, hp, h115, hc116⟩ := hp
 obtain ⟨r112, hr⟩ : ∃ r, objtext_bounds_1 1000000 n_ = r := ⟨_, rfl⟩
 replace hm := hm r112 hr
 rw [hr] at hp h115
 clear hr
 subst hp
 replace hm := hm (h115.sm kr)
 replace hS := hS.addbox (id := 2) (t := 3) (cs := [I n_]) kr hc116
 clear hc116
 refine eP T hS ⟨[(2, Sl a105 r104 c106), (3, Sl a113 r112 c114)], []⟩ fun a hS => ?_
 refine wret ?_
 exact fin T hS hO (fun c => c) rfl (r := [.slice a105 r104.length c106, .slice a113 r112.length c114]) kr (fun χ' hM hC => ⟨(r104, r112), hm, a105, c106, a113, c114, rfl, h107.m0 hM, h115.m0 hM⟩)
theorem C40 (k64 : S64) (v : ∀ (n_ : Int), preBn n_ → VC40 n_ (fun r => r = objtext_bounds n_)) : S40 := by
 intro w χ n_    hp 
 refine (W40 k64 w χ n_    _ (v n_ hp)).mono ?_
 rintro _ _ _ _ ⟨r, rfl, h⟩
 exact h
/-- replevin/objtext.Numbers -/
theorem W42 (k66 : S66) (w0 : World) (χ0 : Nat → Nat) (l_ : List Token_Token) (word : List UInt8) (lo : List Int) (hi : List Int) (end_ : Int) (a1 : Option Addr) (c1 : Nat) (a2 : Option Addr) (c2 : Nat) (a3 : Option Addr) (c3 : Nat) (Q : (List Int) × Int × Int → Prop) (hm : VC42 l_ word lo hi end_ Q) (h1 : RS tToken_Token w0 χ0 a1 l_ c1) (h2 : RS tI w0 χ0 a2 lo c2) (h3 : RS tI w0 χ0 a3 hi c3) :
  Ret Tryd.prog 42 #[.slice a1 l_.length c1, .string (bs word), .slice a2 lo.length c2, .slice a3 hi.length c3, .int .i64 end_] xnone w0 χ0 (fun w χ' v => ∃ r, Q r ∧ ∃ (ra1 : Option Addr) (rc1 : Nat), v = .tuple #[.slice ra1 r.1.length rc1, .int .i64 r.2.1, .int .i64 r.2.2] ∧ RS tI w χ' ra1 r.1 rc1) := by
 unfold VC42 at hm
 replace hm := hm (h1.sm kr)
 replace hm := hm (h2.sm kr)
 replace hm := hm (h3.sm kr)
 refine enter Tryd.func42 rfl (vals := [.slice a1 l_.length c1, .string (bs word), .slice a2 lo.length c2, .slice a3 hi.length c3, .int .i64 end_]) kr ?_
 intro ρ a hS hO hM
 replace h1 := h1.m0 hM
 replace h2 := h2.m0 hM
 replace h3 := h3.m0 hM
 clear hM
 refine rP T hS ⟨[(0, Sl a1 l_ c1), (1, Z word), (2, Sl a2 lo c2), (3, Sl a3 hi c3), (4, I end_)], []⟩ fun a hS => ?_
 refine wseq ?_
 refine rP T hS ⟨[(0, Sl a1 l_ c1), (1, Z word), (2, Sl a2 lo c2), (3, Sl a3 hi c3), (4, I end_), (21, B (((l_.length : Nat) : Int) == 0))], []⟩ fun a hS => ?_
 refine wcond hS (b := (((l_.length : Nat) : Int) == 0)) kr (fun hb => ?_) (fun hb => ?_)
 ·replace hm := hm.1 hb
  refine rP T hS ⟨[(10, V (.slice none 0 0)), (11, I end_), (12, I 4)], []⟩ fun a hS => ?_
  refine wret ?_
  exact fin T hS hO (fun c => c) rfl (r := [.slice none 0 0, .int .i64 end_, .int .i64 4]) kr (fun χ' hM hC => ⟨([], end_, 4), hm, none, 0, rfl, RS.empty _ _ _⟩)
 ·replace hm := hm.2 hb
  refine wskip ?_
  refine wseq ?_
  refine regO ?_
  refine oP T hS 1 ⟨[(0, Sl a1 l_ c1), (1, Z word), (2, Sl a2 lo c2), (3, Sl a3 hi c3), (4, I end_), (23, Sl a1 l_ c1)], []⟩ fun a hS => ?_
  obtain ⟨hq, hm⟩ := hm
  refine op1 (index (e := 49) (k := .i64) T hS kr kr kr kr h1 kr kr hq.1 hq.2 ?_)
  intro A101 a h102 hS
  clear hq
  refine op1 (fieldA (off := 2) (fsz := 1) (ft := 9) (TF := tStr) (y := (gi l_ 0).Text) T hS kr kr kr h102 kr kr kr (fun cs h => Token_Token_f2 h) ?_)
  intro A103 a h104 hS
  refine op1 (load1 T hS kr kr kr h104 rfl kr ?_)
  intro v105 a hv hS
  cases hv
  refine eP T hS ⟨[(0, Sl a1 l_ c1), (2, Sl a2 lo c2), (3, Sl a3 hi c3), (4, I end_), (28, B (!(((gi l_ 0).Text) == word)))], []⟩ fun a hS => ?_
  refine wcond hS (b := (!(((gi l_ 0).Text) == word))) kr (fun hb => ?_) (fun hb => ?_)
  ·replace hm := hm.1 hb
   refine drawnSX [] mixed hS ?_
   intro w106 χ107 hS hE hD hH
   replace hO := hO.mv hE rfl rfl
   replace h1 := h1.mv hE rfl
   clear hE
   refine tk T [0, 4] [] hS hH #[true, false, false, false, true, false, false] 5 ⟨[(10, V (.slice none 0 0)), (29, Sl a1 l_ c1)], []⟩ fun a hS => ?_
   obtain ⟨hq, hm⟩ := hm
   refine dindex (e := 49) (k := .i64) T 1 hS kr kr kr (by rfl) kr hH kr kr h1 kr kr hq.1 hq.2 ?_
   intro A108 a h109 hS
   clear hq
   have h109b := h109.here
   refine dfieldA (off := 1) (fsz := 1) (ft := 3) (TF := tI) (y := (gi l_ 0).At) 2 T hS kr kr kr (by rfl) kr hH kr h109 kr kr kr (fun cs h => Token_Token_f1 h) ?_
   intro A110 a h111 hbl hS
   have h111b := h109b
   rw [← hbl] at h111b
   clear hbl
   refine dload1 T 3 hS kr kr kr (by rfl) kr hH kr h111 h111b rfl kr ?_
   intro v112 a hv hS
   cases hv
   refine tk T [5, 6] [] hS hH #[true, true, true, true, true, true, true] 0 ⟨[(10, V (.slice none 0 0)), (11, I ((gi l_ 0).At)), (12, I 8)], []⟩ fun a hS => ?_
   refine drawnDone kr ?_
   clear hD hH
   replace hS := hS.sl ⟨[(10, V (.slice none 0 0)), (11, I ((gi l_ 0).At)), (12, I 8)], []⟩
   refine wret ?_
   exact fin T hS hO (fun c => c) rfl (r := [.slice none 0 0, .int .i64 ((gi l_ 0).At), .int .i64 8]) kr (fun χ' hM hC => ⟨([], (gi l_ 0).At, 8), hm, none, 0, rfl, RS.empty _ _ _⟩)
  ·replace hm := hm.2 hb
   refine wskip ?_
   refine regO ?_
   refine oP T hS 4 ⟨[(0, Sl a1 l_ c1), (2, Sl a2 lo c2), (3, Sl a3 hi c3), (4, I end_), (33, Sl a1 l_ c1), (36, I (IntKind.i64.wrap (((l_.length : Nat) : Int) - 1)))], []⟩ fun a hS => ?_
   obtain ⟨hq, hm⟩ := hm
   refine op1 (index (e := 49) (k := .i64) T hS kr kr kr kr h1 kr kr hq.1 hq.2 ?_)
   intro A113 a h114 hS
   clear hq
   refine op1 (loadA T hS kr kr kr h114 kr kr ?_)
   intro v115 a hv hS
   subst hv
   refine eM T hS ⟨[(0, Sl a1 l_ c1), (2, Sl a2 lo c2), (3, Sl a3 hi c3), (4, I end_), (13, Pt 14 0)], [(14, (49, [I ((gi l_ (IntKind.i64.wrap (((l_.length : Nat) : Int) - 1))).Line), I ((gi l_ (IntKind.i64.wrap (((l_.length : Nat) : Int) - 1))).At), Z ((gi l_ (IntKind.i64.wrap (((l_.length : Nat) : Int) - 1))).Text)]))]⟩ fun ρ a w172 χ173 hS hE hr => ?_
   replace hO := hO.mv hE rfl rfl
   replace h1 := h1.mv hE rfl
   replace h2 := h2.mv hE rfl
   replace h3 := h3.mv hE rfl
   clear hE hr
   refine rP T hS ⟨[(0, Sl a1 l_ c1), (2, Sl a2 lo c2), (3, Sl a3 hi c3), (4, I end_), (13, Pt 14 0), (14, V (.slice none 0 0))], [(14, (49, [I ((gi l_ (IntKind.i64.wrap (((l_.length : Nat) : Int) - 1))).Line), I ((gi l_ (IntKind.i64.wrap (((l_.length : Nat) : Int) - 1))).At), Z ((gi l_ (IntKind.i64.wrap (((l_.length : Nat) : Int) - 1))).Text)]))]⟩ fun a hS => ?_
   refine wcut (fun a w => ∃ (ρ : Nat → Nat) (χ : Nat → Nat) (out_117 : List Int) (a118 : Option Addr) (c119 : Nat), VC42_J1 l_ end_ Q out_117 ∧ St Tryd.f42.ntmps ⟨[(0, Sl a1 l_ c1), (4, I end_), (14, Sl a118 out_117 c119)], []⟩ ρ a w χ ∧ Old w0 χ0 w χ ∧ RS tToken_Token w χ a1 l_ c1 ∧ OS tI 3 w χ 1011 a118 out_117 c119) ?_ ?_
   ·refine rP T hS ⟨[(0, Sl a1 l_ c1), (2, Sl a2 lo c2), (3, Sl a3 hi c3), (4, I end_), (13, Pt 14 0), (14, V (.slice none 0 0)), (43, I (if ((hi.length : Nat) : Int) < ((lo.length : Nat) : Int) then ((hi.length : Nat) : Int) else ((lo.length : Nat) : Int))), (44, I 0)], [(14, (49, [I ((gi l_ (IntKind.i64.wrap (((l_.length : Nat) : Int) - 1))).Line), I ((gi l_ (IntKind.i64.wrap (((l_.length : Nat) : Int) - 1))).At), Z ((gi l_ (IntKind.i64.wrap (((l_.length : Nat) : Int) - 1))).Text)]))]⟩ fun a hS => ?_
    refine wblock ?_
    obtain ⟨I1, μ1, hm0, hm⟩ := hm
    refine wloop (σ := (List Int) × Int) (fun s a w => ∃ (ρ : Nat → Nat) (χ : Nat → Nat) (a134 : Option Addr) (c135 : Nat), I1 s.1 s.2 ∧ St Tryd.f42.ntmps ⟨[(0, Sl a1 l_ c1), (2, Sl a2 lo c2), (3, Sl a3 hi c3), (4, I end_), (13, Pt 14 0), (14, Sl a134 s.1 c135), (43, I (if ((hi.length : Nat) : Int) < ((lo.length : Nat) : Int) then ((hi.length : Nat) : Int) else ((lo.length : Nat) : Int))), (44, I s.2)], [(14, (49, [I ((gi l_ (IntKind.i64.wrap (((l_.length : Nat) : Int) - 1))).Line), I ((gi l_ (IntKind.i64.wrap (((l_.length : Nat) : Int) - 1))).At), Z ((gi l_ (IntKind.i64.wrap (((l_.length : Nat) : Int) - 1))).Text)]))]⟩ ρ a w χ ∧ Old w0 χ0 w χ ∧ RS tToken_Token w χ a1 l_ c1 ∧ RS tI w χ a2 lo c2 ∧ RS tI w χ a3 hi c3 ∧ OS tI 3 w χ 1011 a134 s.1 c135) (fun s => μ1 s.1 s.2) (⟨[], 0⟩) ?_ ?_
    ·exact ⟨ρ, _, none, 0, hm0, hS.sl _, hO, h1, h2, h3, (OS.nil _ _ _ _ _)⟩
    ·rintro ⟨out_133, x_137⟩ a w169 ⟨ρ, χ168, a134, c135, hI, hS, hO, h130, h131, h132, h136⟩
     replace hm := hm out_133 x_137 hI
     clear hI hm0
     refine rP T hS ⟨[(0, Sl a1 l_ c1), (2, Sl a2 lo c2), (3, Sl a3 hi c3), (4, I end_), (13, Pt 14 0), (14, Sl a134 out_133 c135), (43, I (if ((hi.length : Nat) : Int) < ((lo.length : Nat) : Int) then ((hi.length : Nat) : Int) else ((lo.length : Nat) : Int))), (44, I x_137), (45, B (decide (x_137 < (if ((hi.length : Nat) : Int) < ((lo.length : Nat) : Int) then ((hi.length : Nat) : Int) else ((lo.length : Nat) : Int)))))], [(14, (49, [I ((gi l_ (IntKind.i64.wrap (((l_.length : Nat) : Int) - 1))).Line), I ((gi l_ (IntKind.i64.wrap (((l_.length : Nat) : Int) - 1))).At), Z ((gi l_ (IntKind.i64.wrap (((l_.length : Nat) : Int) - 1))).Text)]))]⟩ fun a hS => ?_
     refine wseq ?_
     refine wcond hS (b := decide (x_137 < (if ((hi.length : Nat) : Int) < ((lo.length : Nat) : Int) then ((hi.length : Nat) : Int) else ((lo.length : Nat) : Int)))) kr (fun hb => ?_) (fun hb => ?_)
     ·replace hm := hm.1 hb
      refine wskip ?_
      refine wseq ?_
      refine wblock ?_
      refine rP T hS ⟨[(0, Sl a1 l_ c1), (2, Sl a2 lo c2), (3, Sl a3 hi c3), (4, I end_), (13, Pt 14 0), (14, Sl a134 out_133 c135), (15, I x_137), (43, I (if ((hi.length : Nat) : Int) < ((lo.length : Nat) : Int) then ((hi.length : Nat) : Int) else ((lo.length : Nat) : Int))), (44, I x_137)], [(14, (49, [I ((gi l_ (IntKind.i64.wrap (((l_.length : Nat) : Int) - 1))).Line), I ((gi l_ (IntKind.i64.wrap (((l_.length : Nat) : Int) - 1))).At), Z ((gi l_ (IntKind.i64.wrap (((l_.length : Nat) : Int) - 1))).Text)]))]⟩ fun a hS => ?_
      refine wseq ?_
      refine rP T hS ⟨[(0, Sl a1 l_ c1), (2, Sl a2 lo c2), (3, Sl a3 hi c3), (4, I end_), (13, Pt 14 0), (14, Sl a134 out_133 c135), (15, I x_137), (43, I (if ((hi.length : Nat) : Int) < ((lo.length : Nat) : Int) then ((hi.length : Nat) : Int) else ((lo.length : Nat) : Int))), (44, I x_137), (51, B (decide ((IntKind.i64.wrap (x_137 + 1)) ≥ ((l_.length : Nat) : Int))))], [(14, (49, [I ((gi l_ (IntKind.i64.wrap (((l_.length : Nat) : Int) - 1))).Line), I ((gi l_ (IntKind.i64.wrap (((l_.length : Nat) : Int) - 1))).At), Z ((gi l_ (IntKind.i64.wrap (((l_.length : Nat) : Int) - 1))).Text)]))]⟩ fun a hS => ?_
      refine wcond hS (b := decide ((IntKind.i64.wrap (x_137 + 1)) ≥ ((l_.length : Nat) : Int))) kr (fun hb => ?_) (fun hb => ?_)
      ·replace hm := hm.1 hb
       refine drawnSX [14] mixed hS ?_
       intro w138 χ139 hS hE hD hH
       replace hO := hO.mv hE rfl rfl
       clear hE
       refine tk T [0, 2, 6, 1, 3, 4, 5, 7, 8] [14] hS hH #[true, true, true, true, true, true, true, true, true] 0 ⟨[(10, V (.slice none 0 0)), (11, I (IntKind.i64.wrap (((gi l_ (IntKind.i64.wrap (((l_.length : Nat) : Int) - 1))).At) + ((((gi l_ (IntKind.i64.wrap (((l_.length : Nat) : Int) - 1))).Text).length : Nat) : Int)))), (12, I 4)], [(14, (49, [I ((gi l_ (IntKind.i64.wrap (((l_.length : Nat) : Int) - 1))).Line), I ((gi l_ (IntKind.i64.wrap (((l_.length : Nat) : Int) - 1))).At), Z ((gi l_ (IntKind.i64.wrap (((l_.length : Nat) : Int) - 1))).Text)]))]⟩ fun a hS => ?_
       refine drawnDone kr ?_
       clear hD hH
       replace hS := hS.sl ⟨[(10, V (.slice none 0 0)), (11, I (IntKind.i64.wrap (((gi l_ (IntKind.i64.wrap (((l_.length : Nat) : Int) - 1))).At) + ((((gi l_ (IntKind.i64.wrap (((l_.length : Nat) : Int) - 1))).Text).length : Nat) : Int)))), (12, I 4)], []⟩
       refine wret ?_
       exact fin T hS hO (fun c => c) rfl (r := [.slice none 0 0, .int .i64 (IntKind.i64.wrap (((gi l_ (IntKind.i64.wrap (((l_.length : Nat) : Int) - 1))).At) + ((((gi l_ (IntKind.i64.wrap (((l_.length : Nat) : Int) - 1))).Text).length : Nat) : Int))), .int .i64 4]) kr (fun χ' hM hC => ⟨([], IntKind.i64.wrap (((gi l_ (IntKind.i64.wrap (((l_.length : Nat) : Int) - 1))).At) + ((((gi l_ (IntKind.i64.wrap (((l_.length : Nat) : Int) - 1))).Text).length : Nat) : Int)), 4), hm, none, 0, rfl, RS.empty _ _ _⟩)
      ·replace hm := hm.2 hb
       refine wskip ?_
       refine regO ?_
       refine oP T hS 3 ⟨[(0, Sl a1 l_ c1), (2, Sl a2 lo c2), (3, Sl a3 hi c3), (4, I end_), (13, Pt 14 0), (14, Sl a134 out_133 c135), (15, I x_137), (43, I (if ((hi.length : Nat) : Int) < ((lo.length : Nat) : Int) then ((hi.length : Nat) : Int) else ((lo.length : Nat) : Int))), (44, I x_137), (58, Sl a1 l_ c1), (60, I (IntKind.i64.wrap (x_137 + 1)))], [(14, (49, [I ((gi l_ (IntKind.i64.wrap (((l_.length : Nat) : Int) - 1))).Line), I ((gi l_ (IntKind.i64.wrap (((l_.length : Nat) : Int) - 1))).At), Z ((gi l_ (IntKind.i64.wrap (((l_.length : Nat) : Int) - 1))).Text)]))]⟩ fun a hS => ?_
       obtain ⟨hq, hm⟩ := hm
       refine op1 (index (e := 49) (k := .i64) T hS kr kr kr kr h130 kr kr hq.1 hq.2 ?_)
       intro A140 a h141 hS
       clear hq
       refine op1 (loadA T hS kr kr kr h141 kr kr ?_)
       intro v142 a hv hS
       subst hv
       refine eM T hS ⟨[(0, Sl a1 l_ c1), (2, Sl a2 lo c2), (3, Sl a3 hi c3), (4, I end_), (13, Pt 14 0), (14, Sl a134 out_133 c135), (15, I x_137), (16, Pt 17 0), (43, I (if ((hi.length : Nat) : Int) < ((lo.length : Nat) : Int) then ((hi.length : Nat) : Int) else ((lo.length : Nat) : Int))), (44, I x_137)], [(14, (49, [I ((gi l_ (IntKind.i64.wrap (((l_.length : Nat) : Int) - 1))).Line), I ((gi l_ (IntKind.i64.wrap (((l_.length : Nat) : Int) - 1))).At), Z ((gi l_ (IntKind.i64.wrap (((l_.length : Nat) : Int) - 1))).Text)])), (17, (49, [I ((gi l_ (IntKind.i64.wrap (x_137 + 1))).Line), I ((gi l_ (IntKind.i64.wrap (x_137 + 1))).At), Z ((gi l_ (IntKind.i64.wrap (x_137 + 1))).Text)]))]⟩ fun ρ a w166 χ167 hS hE hr => ?_
       replace hO := hO.mv hE rfl rfl
       replace h130 := h130.mv hE rfl
       replace h131 := h131.mv hE rfl
       replace h132 := h132.mv hE rfl
       replace h136 := h136.mv hE rfl rfl
       clear hE hr
       refine drawnSX [14, 17] mixed hS ?_
       intro w143 χ144 hS hE hD hH
       replace hO := hO.mv hE rfl rfl
       replace h130 := h130.mv hE rfl
       replace h131 := h131.mv hE rfl
       replace h132 := h132.mv hE rfl
       replace h136 := h136.mv hE rfl rfl
       clear hE
       refine tk T [0, 2, 3, 6, 7, 1] [14, 17] hS hH #[true, true, true, true, false, false, true, true, false, false, false, false, false, false, false, false] 10 ⟨[(0, Sl a1 l_ c1), (2, Sl a2 lo c2), (3, Sl a3 hi c3), (4, I end_), (13, Pt 14 0), (14, Sl a134 out_133 c135), (16, Pt 17 0), (43, I (if ((hi.length : Nat) : Int) < ((lo.length : Nat) : Int) then ((hi.length : Nat) : Int) else ((lo.length : Nat) : Int))), (44, I x_137), (65, Z ((gi l_ (IntKind.i64.wrap (x_137 + 1))).Text)), (66, Sl a2 lo c2), (67, I x_137), (70, Sl a3 hi c3), (71, I x_137)], [(14, (49, [I ((gi l_ (IntKind.i64.wrap (((l_.length : Nat) : Int) - 1))).Line), I ((gi l_ (IntKind.i64.wrap (((l_.length : Nat) : Int) - 1))).At), Z ((gi l_ (IntKind.i64.wrap (((l_.length : Nat) : Int) - 1))).Text)])), (17, (49, [I ((gi l_ (IntKind.i64.wrap (x_137 + 1))).Line), I ((gi l_ (IntKind.i64.wrap (x_137 + 1))).At), Z ((gi l_ (IntKind.i64.wrap (x_137 + 1))).Text)]))]⟩ fun a hS => ?_
       obtain ⟨hq, hm⟩ := hm
       refine dindex (e := 3) (k := .i64) T 4 hS kr kr kr (by rfl) kr hH kr kr h131 kr kr hq.1 hq.2 ?_
       intro A145 a h146 hS
       clear hq
       have h146b := h146.here
       refine dload1 T 5 hS kr kr kr (by rfl) kr hH kr h146 h146b rfl kr ?_
       intro v147 a hv hS
       cases hv
       obtain ⟨hq, hm⟩ := hm
       refine dindex (e := 3) (k := .i64) T 8 hS kr kr kr (by rfl) kr hH kr kr h132 kr kr hq.1 hq.2 ?_
       intro A148 a h149 hS
       clear hq
       have h149b := h149.here
       refine dload1 T 9 hS kr kr kr (by rfl) kr hH kr h149 h149b rfl kr ?_
       intro v150 a hv hS
       cases hv
       obtain ⟨hq, hm⟩ := hm
       refine only 10 kr (by rfl) (call hS kr kr hb66 kr (fun _ _ => rfl) (k66 _ _ ((gi l_ (IntKind.i64.wrap (x_137 + 1))).Text) (gi lo x_137) (gi hi x_137) hq) ?_)
       intro v151 a w152 χ153 hE hp hS
       clear hq
       replace hO := hO.mv hE rfl rfl
       replace hD := hD.ev hE rfl
       replace h130 := h130.mv hE rfl
       replace h131 := h131.mv hE rfl
       replace h132 := h132.mv hE rfl
       replace h136 := h136.mv hE rfl rfl
       replace h146 := h146.mv hE rfl
       replace h149 := h149.mv hE rfl
       clear hE
       obtain ⟨r154, hr⟩ : ∃ r, token_Number ((gi l_ (IntKind.i64.wrap (x_137 + 1))).Text) (gi lo x_137) (gi hi x_137) = r := ⟨_, rfl⟩
       replace hm := hm r154 hr
       rw [hr] at hp
       clear hr
       subst hp
       replace hS := hS.sl ⟨[(0, Sl a1 l_ c1), (2, Sl a2 lo c2), (3, Sl a3 hi c3), (4, I end_), (13, Pt 14 0), (14, Sl a134 out_133 c135), (16, Pt 17 0), (43, I (if ((hi.length : Nat) : Int) < ((lo.length : Nat) : Int) then ((hi.length : Nat) : Int) else ((lo.length : Nat) : Int))), (44, I x_137), (65, Z ((gi l_ (IntKind.i64.wrap (x_137 + 1))).Text)), (66, Sl a2 lo c2), (67, I x_137), (70, Sl a3 hi c3), (71, I x_137), (68, V (.pointer (some A145))), (69, I (gi lo x_137)), (72, V (.pointer (some A148))), (73, I (gi hi x_137)), (74, V (.tuple #[.int .i64 r154.1, .int .i64 r154.2]))], [(14, (49, [I ((gi l_ (IntKind.i64.wrap (((l_.length : Nat) : Int) - 1))).Line), I ((gi l_ (IntKind.i64.wrap (((l_.length : Nat) : Int) - 1))).At), Z ((gi l_ (IntKind.i64.wrap (((l_.length : Nat) : Int) - 1))).Text)])), (17, (49, [I ((gi l_ (IntKind.i64.wrap (x_137 + 1))).Line), I ((gi l_ (IntKind.i64.wrap (x_137 + 1))).At), Z ((gi l_ (IntKind.i64.wrap (x_137 + 1))).Text)]))]⟩
       refine andH (Hold.of hS (bks := [14, 17]) kr hD) ?_
       intro hH
       refine tk T [11, 12, 13, 14, 15] [14, 17] hS hH #[true, true, true, true, true, true, true, true, true, true, true, true, true, true, true, true] 0 ⟨[(0, Sl a1 l_ c1), (2, Sl a2 lo c2), (3, Sl a3 hi c3), (4, I end_), (13, Pt 14 0), (14, Sl a134 out_133 c135), (16, Pt 17 0), (17, I r154.1), (18, I r154.2), (43, I (if ((hi.length : Nat) : Int) < ((lo.length : Nat) : Int) then ((hi.length : Nat) : Int) else ((lo.length : Nat) : Int))), (44, I x_137)], [(14, (49, [I ((gi l_ (IntKind.i64.wrap (((l_.length : Nat) : Int) - 1))).Line), I ((gi l_ (IntKind.i64.wrap (((l_.length : Nat) : Int) - 1))).At), Z ((gi l_ (IntKind.i64.wrap (((l_.length : Nat) : Int) - 1))).Text)])), (17, (49, [I ((gi l_ (IntKind.i64.wrap (x_137 + 1))).Line), I ((gi l_ (IntKind.i64.wrap (x_137 + 1))).At), Z ((gi l_ (IntKind.i64.wrap (x_137 + 1))).Text)]))]⟩ fun a hS => ?_
       refine drawnDone kr ?_
       clear hD hH
       replace hS := hS.sl ⟨[(0, Sl a1 l_ c1), (2, Sl a2 lo c2), (3, Sl a3 hi c3), (4, I end_), (13, Pt 14 0), (14, Sl a134 out_133 c135), (16, Pt 17 0), (17, I r154.1), (18, I r154.2), (43, I (if ((hi.length : Nat) : Int) < ((lo.length : Nat) : Int) then ((hi.length : Nat) : Int) else ((lo.length : Nat) : Int))), (44, I x_137)], [(14, (49, [I ((gi l_ (IntKind.i64.wrap (((l_.length : Nat) : Int) - 1))).Line), I ((gi l_ (IntKind.i64.wrap (((l_.length : Nat) : Int) - 1))).At), Z ((gi l_ (IntKind.i64.wrap (((l_.length : Nat) : Int) - 1))).Text)])), (17, (49, [I ((gi l_ (IntKind.i64.wrap (x_137 + 1))).Line), I ((gi l_ (IntKind.i64.wrap (x_137 + 1))).At), Z ((gi l_ (IntKind.i64.wrap (x_137 + 1))).Text)]))]⟩
       refine wseq ?_
       refine rP T hS ⟨[(0, Sl a1 l_ c1), (2, Sl a2 lo c2), (3, Sl a3 hi c3), (4, I end_), (13, Pt 14 0), (14, Sl a134 out_133 c135), (16, Pt 17 0), (17, I r154.1), (18, I r154.2), (43, I (if ((hi.length : Nat) : Int) < ((lo.length : Nat) : Int) then ((hi.length : Nat) : Int) else ((lo.length : Nat) : Int))), (44, I x_137), (78, B (r154.2 != 0))], [(14, (49, [I ((gi l_ (IntKind.i64.wrap (((l_.length : Nat) : Int) - 1))).Line), I ((gi l_ (IntKind.i64.wrap (((l_.length : Nat) : Int) - 1))).At), Z ((gi l_ (IntKind.i64.wrap (((l_.length : Nat) : Int) - 1))).Text)])), (17, (49, [I ((gi l_ (IntKind.i64.wrap (x_137 + 1))).Line), I ((gi l_ (IntKind.i64.wrap (x_137 + 1))).At), Z ((gi l_ (IntKind.i64.wrap (x_137 + 1))).Text)]))]⟩ fun a hS => ?_
       refine wcond hS (b := (r154.2 != 0)) kr (fun hb => ?_) (fun hb => ?_)
       ·replace hm := hm.1 hb
        replace hS := hS.sl ⟨[(16, Pt 17 0), (18, I r154.2)], [(17, (49, [I ((gi l_ (IntKind.i64.wrap (x_137 + 1))).Line), I ((gi l_ (IntKind.i64.wrap (x_137 + 1))).At), Z ((gi l_ (IntKind.i64.wrap (x_137 + 1))).Text)]))]⟩
        refine drawnSX [17] mixed hS ?_
        intro w155 χ156 hS hE hD hH
        replace hO := hO.mv hE rfl rfl
        clear hE
        refine tk T [0, 2, 3, 1, 4, 5] [17] hS hH #[true, true, true, true, true, true] 0 ⟨[(10, V (.slice none 0 0)), (11, I ((gi l_ (IntKind.i64.wrap (x_137 + 1))).At)), (12, I r154.2)], [(17, (49, [I ((gi l_ (IntKind.i64.wrap (x_137 + 1))).Line), I ((gi l_ (IntKind.i64.wrap (x_137 + 1))).At), Z ((gi l_ (IntKind.i64.wrap (x_137 + 1))).Text)]))]⟩ fun a hS => ?_
        refine drawnDone kr ?_
        clear hD hH
        replace hS := hS.sl ⟨[(10, V (.slice none 0 0)), (11, I ((gi l_ (IntKind.i64.wrap (x_137 + 1))).At)), (12, I r154.2)], []⟩
        refine wret ?_
        exact fin T hS hO (fun c => c) rfl (r := [.slice none 0 0, .int .i64 ((gi l_ (IntKind.i64.wrap (x_137 + 1))).At), .int .i64 r154.2]) kr (fun χ' hM hC => ⟨([], (gi l_ (IntKind.i64.wrap (x_137 + 1))).At, r154.2), hm, none, 0, rfl, RS.empty _ _ _⟩)
       ·replace hm := hm.2 hb
        refine wskip ?_
        refine region ?_
        refine oP T hS 2 ⟨[(0, Sl a1 l_ c1), (2, Sl a2 lo c2), (3, Sl a3 hi c3), (4, I end_), (13, Pt 14 0), (14, Sl a134 out_133 c135), (43, I (if ((hi.length : Nat) : Int) < ((lo.length : Nat) : Int) then ((hi.length : Nat) : Int) else ((lo.length : Nat) : Int))), (44, I x_137), (82, Sl a134 out_133 c135), (83, I r154.1)], [(14, (49, [I ((gi l_ (IntKind.i64.wrap (((l_.length : Nat) : Int) - 1))).Line), I ((gi l_ (IntKind.i64.wrap (((l_.length : Nat) : Int) - 1))).At), Z ((gi l_ (IntKind.i64.wrap (((l_.length : Nat) : Int) - 1))).Text)]))]⟩ fun a hS => ?_
        refine op1 (lit (E := 3) (col := 0) (T := tI) (vals := [.int .i64 r154.1]) (ys := [r154.1]) T hS kr kr kr kr (by exact ⟨rfl, trivial⟩) rfl kr kr kr kr ?_)
        intro b157 a w158 χ159 hE h160 hN hS
        clear hN
        replace hO := hO.mv hE rfl rfl
        replace h130 := h130.mv hE rfl
        replace h131 := h131.mv hE rfl
        replace h132 := h132.mv hE rfl
        replace h136 := h136.mv hE rfl rfl
        clear hE
        replace h160 := h160.rs0
        obtain ⟨hq, hm⟩ := hm
        obtain ⟨news, hN⟩ := h160.src
        refine op1 (append (E := 3) (T := tI) (col := 1011) (xs := out_133) T hS kr kr kr kr h136 hN kr kr kr kr hq ?_)
        intro a164 c165 a w161 χ162 hE h163 hS
        clear hq hN
        clear h136
        replace hO := hO.mv hE rfl rfl
        replace h130 := h130.mv hE rfl
        replace h131 := h131.mv hE rfl
        replace h132 := h132.mv hE rfl
        replace h160 := h160.mv hE rfl
        clear hE
        refine eP T hS ⟨[(0, Sl a1 l_ c1), (2, Sl a2 lo c2), (3, Sl a3 hi c3), (4, I end_), (13, Pt 14 0), (14, Sl a164 (out_133 ++ [r154.1]) c165), (43, I (if ((hi.length : Nat) : Int) < ((lo.length : Nat) : Int) then ((hi.length : Nat) : Int) else ((lo.length : Nat) : Int))), (44, I x_137)], [(14, (49, [I ((gi l_ (IntKind.i64.wrap (((l_.length : Nat) : Int) - 1))).Line), I ((gi l_ (IntKind.i64.wrap (((l_.length : Nat) : Int) - 1))).At), Z ((gi l_ (IntKind.i64.wrap (((l_.length : Nat) : Int) - 1))).Text)]))]⟩ fun a hS => ?_
        refine region (eP T hS ⟨[(0, Sl a1 l_ c1), (2, Sl a2 lo c2), (3, Sl a3 hi c3), (4, I end_), (13, Pt 14 0), (14, Sl a164 (out_133 ++ [r154.1]) c165), (43, I (if ((hi.length : Nat) : Int) < ((lo.length : Nat) : Int) then ((hi.length : Nat) : Int) else ((lo.length : Nat) : Int))), (44, I (IntKind.i64.wrap (x_137 + 1)))], [(14, (49, [I ((gi l_ (IntKind.i64.wrap (((l_.length : Nat) : Int) - 1))).Line), I ((gi l_ (IntKind.i64.wrap (((l_.length : Nat) : Int) - 1))).At), Z ((gi l_ (IntKind.i64.wrap (((l_.length : Nat) : Int) - 1))).Text)]))]⟩ fun a hS => ?_)
        exact ⟨⟨out_133 ++ [r154.1], IntKind.i64.wrap (x_137 + 1)⟩, ⟨ρ, _, a164, c165, hm.1, hS.sl _, hO, h130, h131, h132, h163⟩, hm.2⟩
     ·replace hm := hm.2 hb
      refine wexit (by rfl) ?_
      exact ⟨ρ, _, out_133, a134, c135, hm, hS.sl _, hO, h130, h136⟩
   ·rintro a w171 ⟨ρ, χ170, out_117, a118, c119, hm, hS, hO, h116, h120⟩
    unfold VC42_J1 at hm
    refine wseq ?_
    refine rP T hS ⟨[(0, Sl a1 l_ c1), (4, I end_), (14, Sl a118 out_117 c119), (92, B (decide (((l_.length : Nat) : Int) > (IntKind.i64.wrap (((out_117.length : Nat) : Int) + 1)))))], []⟩ fun a hS => ?_
    refine wcond hS (b := decide (((l_.length : Nat) : Int) > (IntKind.i64.wrap (((out_117.length : Nat) : Int) + 1)))) kr (fun hb => ?_) (fun hb => ?_)
    ·replace hm := hm.1 hb
     refine drawnSX [] mixed hS ?_
     intro w121 χ122 hS hE hD hH
     replace hO := hO.mv hE rfl rfl
     replace h116 := h116.mv hE rfl
     replace h120 := h120.mv hE rfl rfl
     clear hE
     refine tk T [0, 1, 7, 2, 3] [] hS hH #[true, true, true, true, false, false, false, true, false, false] 5 ⟨[(10, V (.slice none 0 0)), (93, Sl a1 l_ c1), (96, I (IntKind.i64.wrap (((out_117.length : Nat) : Int) + 1)))], []⟩ fun a hS => ?_
     obtain ⟨hq, hm⟩ := hm
     refine dindex (e := 49) (k := .i64) T 4 hS kr kr kr (by rfl) kr hH kr kr h116 kr kr hq.1 hq.2 ?_
     intro A123 a h124 hS
     clear hq
     have h124b := h124.here
     refine dfieldA (off := 1) (fsz := 1) (ft := 3) (TF := tI) (y := (gi l_ (IntKind.i64.wrap (((out_117.length : Nat) : Int) + 1))).At) 5 T hS kr kr kr (by rfl) kr hH kr h124 kr kr kr (fun cs h => Token_Token_f1 h) ?_
     intro A125 a h126 hbl hS
     have h126b := h124b
     rw [← hbl] at h126b
     clear hbl
     refine dload1 T 6 hS kr kr kr (by rfl) kr hH kr h126 h126b rfl kr ?_
     intro v127 a hv hS
     cases hv
     refine tk T [8, 9] [] hS hH #[true, true, true, true, true, true, true, true, true, true] 0 ⟨[(10, V (.slice none 0 0)), (11, I ((gi l_ (IntKind.i64.wrap (((out_117.length : Nat) : Int) + 1))).At)), (12, I 6)], []⟩ fun a hS => ?_
     refine drawnDone kr ?_
     clear hD hH
     replace hS := hS.sl ⟨[(10, V (.slice none 0 0)), (11, I ((gi l_ (IntKind.i64.wrap (((out_117.length : Nat) : Int) + 1))).At)), (12, I 6)], []⟩
     refine wret ?_
     exact fin T hS hO (fun c => c) rfl (r := [.slice none 0 0, .int .i64 ((gi l_ (IntKind.i64.wrap (((out_117.length : Nat) : Int) + 1))).At), .int .i64 6]) kr (fun χ' hM hC => ⟨([], (gi l_ (IntKind.i64.wrap (((out_117.length : Nat) : Int) + 1))).At, 6), hm, none, 0, rfl, RS.empty _ _ _⟩)
    ·replace hm := hm.2 hb
     refine wskip ?_
     refine rP T hS ⟨[(10, Sl a118 out_117 c119), (11, I end_), (12, I 0)], []⟩ fun a hS => ?_
     refine wret ?_
     obtain ⟨χ128, hE, hF⟩ := h120.freeze (by decide)
     replace hS := hS.ev hE (xone_box kr)
     replace hO := hO.mv hE rfl rfl
     have h129 := hF; clear hE hF
     exact fin T hS hO (fun c => c) rfl (r := [.slice a118 out_117.length c119, .int .i64 end_, .int .i64 0]) kr (fun χ' hM hC => ⟨(out_117, end_, 0), hm, a118, c119, rfl, h129.m0 hM⟩)
theorem C42 (k66 : S66) (v : ∀ (l_ : List Token_Token) (word : List UInt8) (lo : List Int) (hi : List Int) (end_ : Int), preNT l_ word lo hi end_ → VC42 l_ word lo hi end_ (fun r => r = objtext_Numbers l_ word lo hi end_)) : S42 := by
 intro w χ l_ word lo hi end_ a1 c1 a2 c2 a3 c3   hp h1 h2 h3
 refine (W42 k66 w χ l_ word lo hi end_ a1 c1 a2 c2 a3 c3   _ (v l_ word lo hi end_ hp) h1 h2 h3).mono ?_
 rintro _ _ _ _ ⟨r, rfl, h⟩
 exact h
/-- replevin/objtext.next -/
theorem W41 (w0 : World) (χ0 : Nat → Nat) (lines : List (List Token_Token)) (a1 : Option Addr) (c1 : Nat) (Q : (List Token_Token) × (List (List Token_Token)) → Prop) (hm : VC41 lines Q) (h1 : RS (tSlice tToken_Token) w0 χ0 a1 lines c1) :
  Ret Tryd.prog 41 #[.slice a1 lines.length c1] xnone w0 χ0 (fun w χ' v => ∃ r, Q r ∧ ∃ (ra1 : Option Addr) (rc1 : Nat) (ra2 : Option Addr) (rc2 : Nat), v = .tuple #[.slice ra1 r.1.length rc1, .slice ra2 r.2.length rc2] ∧ RS tToken_Token w χ' ra1 r.1 rc1 ∧ RS (tSlice tToken_Token) w χ' ra2 r.2 rc2) := by
 unfold VC41 at hm
 replace hm := hm (h1.sm kr)
 refine enter Tryd.func41 rfl (vals := [.slice a1 lines.length c1]) kr ?_
 intro ρ a hS hO hM
 replace h1 := h1.m0 hM
 clear hM
 refine rP T hS ⟨[(0, Sl a1 lines c1)], []⟩ fun a hS => ?_
 refine wcut (fun a w => ∃ (ρ : Nat → Nat) (χ : Nat → Nat), VC41_J1 Q ∧ St Tryd.f41.ntmps ⟨[], []⟩ ρ a w χ ∧ Old w0 χ0 w χ) ?_ ?_
 ·refine rP T hS ⟨[(0, Sl a1 lines c1), (6, Sl a1 lines c1), (7, I ((lines.length : Nat) : Int)), (8, I 0)], []⟩ fun a hS => ?_
  refine wblock ?_
  obtain ⟨I1, μ1, hm0, hm⟩ := hm
  refine wloop (σ := Int) (fun s a w => ∃ (ρ : Nat → Nat) (χ : Nat → Nat), I1 s ∧ St Tryd.f41.ntmps ⟨[(0, Sl a1 lines c1), (6, Sl a1 lines c1), (7, I ((lines.length : Nat) : Int)), (8, I s)], []⟩ ρ a w χ ∧ Old w0 χ0 w χ ∧ RS (tSlice tToken_Token) w χ a1 lines c1 ∧ RS (tSlice tToken_Token) w χ a1 lines c1) (fun s => μ1 s) (0) ?_ ?_
  ·exact ⟨ρ, _, hm0, hS.sl _, hO, h1, h1⟩
  ·rintro x_103 a w116 ⟨ρ, χ115, hI, hS, hO, h101, h102⟩
   replace hm := hm x_103 hI
   clear hI hm0
   refine rP T hS ⟨[(0, Sl a1 lines c1), (6, Sl a1 lines c1), (7, I ((lines.length : Nat) : Int)), (8, I x_103), (9, B (decide (x_103 < ((lines.length : Nat) : Int))))], []⟩ fun a hS => ?_
   refine wseq ?_
   refine wcond hS (b := decide (x_103 < ((lines.length : Nat) : Int))) kr (fun hb => ?_) (fun hb => ?_)
   ·replace hm := hm.1 hb
    refine wskip ?_
    refine wseq ?_
    refine wblock ?_
    refine regO ?_
    refine oP T hS 1 ⟨[(0, Sl a1 lines c1), (6, Sl a1 lines c1), (7, I ((lines.length : Nat) : Int)), (8, I x_103), (10, I x_103)], []⟩ fun a hS => ?_
    obtain ⟨hq, hm⟩ := hm
    refine op1 (index (e := 47) (k := .i64) T hS kr kr kr kr h102 kr kr hq.1 hq.2 ?_)
    intro A104 a h105 hS
    clear hq
    refine op1 (load1 T hS kr kr kr h105 rfl kr ?_)
    intro v106 a hv hS
    obtain ⟨a107, c108, hv, h109⟩ := hv
    cases hv
    replace hm := hm (h109.sm kr)
    refine eP T hS ⟨[(0, Sl a1 lines c1), (4, I x_103), (5, Sl a107 (gi lines x_103) c108), (6, Sl a1 lines c1), (7, I ((lines.length : Nat) : Int)), (8, I x_103)], []⟩ fun a hS => ?_
    refine rP T hS ⟨[(0, Sl a1 lines c1), (4, I x_103), (5, Sl a107 (gi lines x_103) c108), (6, Sl a1 lines c1), (7, I ((lines.length : Nat) : Int)), (8, I x_103), (15, B (decide ((((gi lines x_103).length : Nat) : Int) > 0)))], []⟩ fun a hS => ?_
    refine wcond hS (b := decide ((((gi lines x_103).length : Nat) : Int) > 0)) kr (fun hb => ?_) (fun hb => ?_)
    ·replace hm := hm.1 hb
     refine drawnSX [] mixed hS ?_
     intro w110 χ111 hS hE hD hH
     replace hO := hO.mv hE rfl rfl
     replace h101 := h101.mv hE rfl
     replace h109 := h109.mv hE rfl
     clear hE
     refine tk T [0, 1, 2, 3, 5] [] hS hH #[true, true, true, true, false, true, false] 2 ⟨[(2, Sl a107 (gi lines x_103) c108), (17, Sl a1 lines c1), (19, I (IntKind.i64.wrap (x_103 + 1)))], []⟩ fun a hS => ?_
     obtain ⟨hq, hm⟩ := hm
     refine dslice1 (E := 47) (kl := .i64) T 4 hS kr kr kr (by rfl) kr hH kr kr h101 kr kr hq.1 hq.2 ?_
     intro a112 c113 a h114 hS
     clear hq
     refine tk T [6] [] hS hH #[true, true, true, true, true, true, true] 0 ⟨[(2, Sl a107 (gi lines x_103) c108), (3, Sl a112 (lines.drop (IntKind.i64.wrap (x_103 + 1)).toNat) c113)], []⟩ fun a hS => ?_
     refine drawnDone kr ?_
     clear hD hH
     replace hS := hS.sl ⟨[(2, Sl a107 (gi lines x_103) c108), (3, Sl a112 (lines.drop (IntKind.i64.wrap (x_103 + 1)).toNat) c113)], []⟩
     refine wret ?_
     exact fin T hS hO (fun c => c) rfl (r := [.slice a107 (gi lines x_103).length c108, .slice a112 (lines.drop (IntKind.i64.wrap (x_103 + 1)).toNat).length c113]) kr (fun χ' hM hC => ⟨(gi lines x_103, lines.drop (IntKind.i64.wrap (x_103 + 1)).toNat), hm, a107, c108, a112, c113, rfl, h109.m0 hM, h114.m0 hM⟩)
    ·replace hm := hm.2 hb
     refine wskip ?_
     refine region (eP T hS ⟨[(0, Sl a1 lines c1), (6, Sl a1 lines c1), (7, I ((lines.length : Nat) : Int)), (8, I (IntKind.i64.wrap (x_103 + 1)))], []⟩ fun a hS => ?_)
     exact ⟨IntKind.i64.wrap (x_103 + 1), ⟨ρ, _, hm.1, hS.sl _, hO, h101, h102⟩, hm.2⟩
   ·replace hm := hm.2 hb
    refine wexit (by rfl) ?_
    exact ⟨ρ, _, hm, hS.sl _, hO⟩
 ·rintro a w118 ⟨ρ, χ117, hm, hS, hO⟩
  unfold VC41_J1 at hm
  refine rP T hS ⟨[(2, V (.slice none 0 0)), (3, V (.slice none 0 0))], []⟩ fun a hS => ?_
  refine wret ?_
  exact fin T hS hO (fun c => c) rfl (r := [.slice none 0 0, .slice none 0 0]) kr (fun χ' hM hC => ⟨([], []), hm, none, 0, none, 0, rfl, RS.empty _ _ _, RS.empty _ _ _⟩)
theorem C41 (v : ∀ (lines : List (List Token_Token)), VC41 lines (fun r => r = objtext_next lines)) : S41 := by
 intro w χ lines a1 c1   h1
 refine (W41 w χ lines a1 c1   _ (v lines) h1).mono ?_
 rintro _ _ _ _ ⟨r, rfl, h⟩
 exact h
/-- replevin/objtext.Take -/
theorem W17 (k32 : S32) (k40 : S40) (k41 : S41) (k42 : S42) (w0 : World) (χ0 : Nat → Nat) (lines : List (List Token_Token)) (end_ : Int) (a1 : Option Addr) (c1 : Nat) (Q : Api_Object × (List (List Token_Token)) × Int × Int → Prop) (hm : VC17 lines end_ Q) (h1 : RS (tSlice tToken_Token) w0 χ0 a1 lines c1) :
  Ret Tryd.prog 17 #[.slice a1 lines.length c1, .int .i64 end_] xnone w0 χ0 (fun w χ' v => ∃ r, Q r ∧ ∃ (ra1 : Option Addr) (rc1 : Nat) (ra2 : Option Addr) (rc2 : Nat), v = .tuple #[.agg #[.int .i64 r.1.States, .int .i64 r.1.Kinds, .int .i64 r.1.Init, .slice ra1 r.1.Rows.length rc1], .slice ra2 r.2.1.length rc2, .int .i64 r.2.2.1, .int .i64 r.2.2.2] ∧ RS tApi_Row w χ' ra1 r.1.Rows rc1 ∧ RS (tSlice tToken_Token) w χ' ra2 r.2.1 rc2) := by
 unfold VC17 at hm
 replace hm := hm (h1.sm kr)
 refine enter Tryd.func17 rfl (vals := [.slice a1 lines.length c1, .int .i64 end_]) kr ?_
 intro ρ a hS hO hM
 replace h1 := h1.m0 hM
 clear hM
 refine rM T hS ⟨[(0, Sl a1 lines c1), (1, I end_), (4, Pt 5 0)], [(5, (25, [I 0, I 0, I 0, V (.slice none 0 0)]))]⟩ fun ρ a w348 χ349 hS hE hr => ?_
 replace hO := hO.mv hE rfl rfl
 replace h1 := h1.mv hE rfl
 clear hE hr
 refine regO ?_
 obtain ⟨hq, hm⟩ := hm
 refine op1 (call hS kr kr hb40 kr (fun _ _ => rfl) (k40 _ _ 4 hq) ?_)
 intro v101 a w102 χ103 hE hp hS
 clear hq
 replace hO := hO.mv hE rfl rfl
 replace h1 := h1.mv hE rfl
 clear hE
 obtain ⟨a105, c106, a108, c109, hp, h107, h110⟩ := hp
 obtain ⟨r104, hr⟩ : ∃ r, objtext_bounds 4 = r := ⟨_, rfl⟩
 replace hm := hm r104 hr
 rw [hr] at hp h107 h110
 clear hr
 subst hp
 replace hm := hm (h107.sm kr)
 replace hm := hm (h110.sm kr)
 refine eP T hS ⟨[(0, Sl a1 lines c1), (1, I end_), (4, Pt 5 0), (8, Sl a105 r104.1 c106), (9, Sl a108 r104.2 c109)], [(5, (25, [I 0, I 0, I 0, V (.slice none 0 0)]))]⟩ fun a hS => ?_
 refine regO ?_
 refine oP T hS 1 ⟨[(1, I end_), (4, Pt 5 0), (8, Sl a105 r104.1 c106), (9, Sl a108 r104.2 c109), (26, Sl a1 lines c1)], [(5, (25, [I 0, I 0, I 0, V (.slice none 0 0)]))]⟩ fun a hS => ?_
 refine op1 (call hS kr kr hb41 kr (fun _ _ => rfl) (k41 _ _ lines a1 c1 h1) ?_)
 intro v111 a w112 χ113 hE hp hS
 replace hO := hO.mv hE rfl rfl
 replace h1 := h1.mv hE rfl
 replace h107 := h107.mv hE rfl
 replace h110 := h110.mv hE rfl
 clear hE
 obtain ⟨a115, c116, a118, c119, hp, h117, h120⟩ := hp
 obtain ⟨r114, hr⟩ : ∃ r, objtext_next lines = r := ⟨_, rfl⟩
 replace hm := hm r114 hr
 rw [hr] at hp h117 h120
 clear hr
 subst hp
 replace hm := hm (h117.sm kr)
 replace hm := hm (h120.sm kr)
 refine eP T hS ⟨[(1, I end_), (4, Pt 5 0), (5, Sl a118 r114.2 c119), (8, Sl a105 r104.1 c106), (9, Sl a108 r104.2 c109), (10, Sl a115 r114.1 c116)], [(5, (25, [I 0, I 0, I 0, V (.slice none 0 0)]))]⟩ fun a hS => ?_
 refine regO ?_
 refine oP T hS 4 ⟨[(1, I end_), (4, Pt 5 0), (5, Sl a118 r114.2 c119), (8, Sl a105 r104.1 c106), (9, Sl a108 r104.2 c109), (10, Sl a115 r114.1 c116), (31, Sl a115 r114.1 c116), (32, Sl a105 r104.1 c106), (33, Sl a108 r104.2 c109), (34, I end_)], [(5, (25, [I 0, I 0, I 0, V (.slice none 0 0)]))]⟩ fun a hS => ?_
 obtain ⟨hq, hm⟩ := hm
 refine op1 (call hS kr kr hb42 kr (fun _ _ => rfl) (k42 _ _ r114.1 ([111, 98, 106, 101, 99, 116] : List UInt8) r104.1 r104.2 end_ a115 c116 a105 c106 a108 c109 hq h117 h107 h110) ?_)
 intro v121 a w122 χ123 hE hp hS
 clear hq
 replace hO := hO.mv hE rfl rfl
 replace h107 := h107.mv hE rfl
 replace h110 := h110.mv hE rfl
 replace h117 := h117.mv hE rfl
 replace h120 := h120.mv hE rfl
 clear hE
 obtain ⟨a125, c126, hp, h127⟩ := hp
 obtain ⟨r124, hr⟩ : ∃ r, objtext_Numbers r114.1 ([111, 98, 106, 101, 99, 116] : List UInt8) r104.1 r104.2 end_ = r := ⟨_, rfl⟩
 replace hm := hm r124 hr
 rw [hr] at hp h127
 clear hr
 subst hp
 replace hm := hm (h127.sm kr)
 refine eP T hS ⟨[(1, I end_), (4, Pt 5 0), (5, Sl a118 r114.2 c119), (6, I r124.2.1), (7, I r124.2.2), (8, Sl a105 r104.1 c106), (9, Sl a108 r104.2 c109), (10, Sl a115 r114.1 c116), (11, Sl a125 r124.1 c126)], [(5, (25, [I 0, I 0, I 0, V (.slice none 0 0)]))]⟩ fun a hS => ?_
 refine wseq ?_
 refine rP T hS ⟨[(1, I end_), (4, Pt 5 0), (5, Sl a118 r114.2 c119), (6, I r124.2.1), (7, I r124.2.2), (8, Sl a105 r104.1 c106), (9, Sl a108 r104.2 c109), (10, Sl a115 r114.1 c116), (11, Sl a125 r124.1 c126), (40, B (r124.2.2 != 0))], [(5, (25, [I 0, I 0, I 0, V (.slice none 0 0)]))]⟩ fun a hS => ?_
 refine wcond hS (b := (r124.2.2 != 0)) kr (fun hb => ?_) (fun hb => ?_)
 ·replace hm := hm.1 hb
  refine rM T hS ⟨[(4, Pt 5 0), (5, V (.slice none 0 0)), (6, I r124.2.1), (7, I r124.2.2)], [(5, (25, [I 0, I 0, I 0, V (.slice none 0 0)]))]⟩ fun ρ a w128 χ129 hS hE hr => ?_
  replace hO := hO.mv hE rfl rfl
  clear hE hr
  refine wret ?_
  exact fin T hS hO (fun c => c) rfl (r := [.agg #[.int .i64 0, .int .i64 0, .int .i64 0, .slice none 0 0], .slice none 0 0, .int .i64 r124.2.1, .int .i64 r124.2.2]) kr (fun χ' hM hC => ⟨((⟨0, 0, 0, []⟩ : Api_Object), [], r124.2.1, r124.2.2), hm, none, 0, none, 0, rfl, RS.empty _ _ _, RS.empty _ _ _⟩)
 ·replace hm := hm.2 hb
  refine wskip ?_
  refine drawnSX [5] mixed hS ?_
  intro w130 χ131 hS hE hD hH
  replace hO := hO.mv hE rfl rfl
  replace h107 := h107.mv hE rfl
  replace h110 := h110.mv hE rfl
  replace h117 := h117.mv hE rfl
  replace h120 := h120.mv hE rfl
  replace h127 := h127.mv hE rfl
  clear hE
  refine tk T [0, 3, 6] [5] hS hH #[true, false, false, true, false, false, true, false, false, false, false, false] 9 ⟨[(1, I end_), (4, Pt 5 0), (5, Sl a118 r114.2 c119), (8, Sl a105 r104.1 c106), (9, Sl a108 r104.2 c109), (10, Sl a115 r114.1 c116), (11, Sl a125 r124.1 c126), (44, Sl a125 r124.1 c126), (47, Sl a125 r124.1 c126), (50, Sl a125 r124.1 c126)], [(5, (25, [I 0, I 0, I 0, V (.slice none 0 0)]))]⟩ fun a hS => ?_
  obtain ⟨hq, hm⟩ := hm
  refine dindex (e := 3) (k := .i64) T 1 hS kr kr kr (by rfl) kr hH kr kr h127 kr kr hq.1 hq.2 ?_
  intro A132 a h133 hS
  clear hq
  have h133b := h133.here
  refine dload1 T 2 hS kr kr kr (by rfl) kr hH kr h133 h133b rfl kr ?_
  intro v134 a hv hS
  cases hv
  obtain ⟨hq, hm⟩ := hm
  refine dindex (e := 3) (k := .i64) T 4 hS kr kr kr (by rfl) kr hH kr kr h127 kr kr hq.1 hq.2 ?_
  intro A135 a h136 hS
  clear hq
  have h136b := h136.here
  refine dload1 T 5 hS kr kr kr (by rfl) kr hH kr h136 h136b rfl kr ?_
  intro v137 a hv hS
  cases hv
  obtain ⟨hq, hm⟩ := hm
  refine dindex (e := 3) (k := .i64) T 7 hS kr kr kr (by rfl) kr hH kr kr h127 kr kr hq.1 hq.2 ?_
  intro A138 a h139 hS
  clear hq
  have h139b := h139.here
  refine dload1 T 8 hS kr kr kr (by rfl) kr hH kr h139 h139b rfl kr ?_
  intro v140 a hv hS
  cases hv
  refine tk T [9] [5] hS hH #[true, true, true, true, true, true, true, true, true, true, false, false] 2 ⟨[(1, I end_), (4, Pt 5 0), (5, Sl a118 r114.2 c119), (8, Sl a105 r104.1 c106), (9, Sl a108 r104.2 c109), (10, Sl a115 r114.1 c116), (11, Sl a125 r124.1 c126), (53, V (.agg #[.int .i64 (gi r124.1 0), .int .i64 (gi r124.1 1), .int .i64 (gi r124.1 2), .slice none 0 0]))], [(5, (25, [I 0, I 0, I 0, V (.slice none 0 0)]))]⟩ fun a hS => ?_
  replace hS := hS.sl ⟨[(1, I end_), (4, Pt 5 0), (5, Sl a118 r114.2 c119), (8, Sl a105 r104.1 c106), (9, Sl a108 r104.2 c109), (10, Sl a115 r114.1 c116), (11, Sl a125 r124.1 c126), (53, V (.agg #[.int .i64 (gi r124.1 0), .int .i64 (gi r124.1 1), .int .i64 (gi r124.1 2), .slice none 0 0]))], [(5, (25, [I 0, I 0, I 0, V (.slice none 0 0)]))]⟩
  refine only 10 kr (by rfl) (box1 T hS kr kr kr (sy' := ⟨[(12, Pt 13 0), (1, I end_), (4, Pt 5 0), (5, Sl a118 r114.2 c119), (8, Sl a105 r104.1 c106), (9, Sl a108 r104.2 c109), (10, Sl a115 r114.1 c116), (11, Sl a125 r124.1 c126), (53, V (.agg #[.int .i64 (gi r124.1 0), .int .i64 (gi r124.1 1), .int .i64 (gi r124.1 2), .slice none 0 0]))], [(13, (25, [I 0, I 0, I 0, V (.slice none 0 0)])), (5, (25, [I 0, I 0, I 0, V (.slice none 0 0)]))]⟩) kr ?_)
  intro ρ a w141 χ142 hS hE hr143
  replace hO := hO.mv hE rfl rfl
  replace hD := hD.ev hE rfl
  replace h107 := h107.mv hE rfl
  replace h110 := h110.mv hE rfl
  replace h117 := h117.mv hE rfl
  replace h120 := h120.mv hE rfl
  replace h127 := h127.mv hE rfl
  replace h133 := h133.mv hE rfl
  replace h136 := h136.mv hE rfl
  replace h139 := h139.mv hE rfl
  clear hE
  replace hS := hS.sl ⟨[(1, I end_), (4, Pt 5 0), (5, Sl a118 r114.2 c119), (8, Sl a105 r104.1 c106), (9, Sl a108 r104.2 c109), (10, Sl a115 r114.1 c116), (11, Sl a125 r124.1 c126), (53, V (.agg #[.int .i64 (gi r124.1 0), .int .i64 (gi r124.1 1), .int .i64 (gi r124.1 2), .slice none 0 0])), (12, Pt 13 0)], [(5, (25, [I 0, I 0, I 0, V (.slice none 0 0)])), (13, (25, [I 0, I 0, I 0, V (.slice none 0 0)]))]⟩
  refine andH ((Hold.of hS (bks := [5]) kr hD).rho hr143 kr) ?_
  intro hH
  replace hS := hS.sl ⟨[(1, I end_), (4, Pt 5 0), (5, Sl a118 r114.2 c119), (8, Sl a105 r104.1 c106), (9, Sl a108 r104.2 c109), (10, Sl a115 r114.1 c116), (11, Sl a125 r124.1 c126), (53, V (.agg #[.int .i64 (gi r124.1 0), .int .i64 (gi r124.1 1), .int .i64 (gi r124.1 2), .slice none 0 0])), (12, Pt 13 0)], [(5, (25, [I 0, I 0, I 0, V (.slice none 0 0)])), (13, (25, [I 0, I 0, I 0, V (.slice none 0 0)]))]⟩
  refine only 11 kr (by rfl) (store1 T hS kr kr (sy' := ⟨[(1, I end_), (4, Pt 5 0), (5, Sl a118 r114.2 c119), (8, Sl a105 r104.1 c106), (9, Sl a108 r104.2 c109), (10, Sl a115 r114.1 c116), (11, Sl a125 r124.1 c126), (53, V (.agg #[.int .i64 (gi r124.1 0), .int .i64 (gi r124.1 1), .int .i64 (gi r124.1 2), .slice none 0 0])), (12, Pt 13 0)], [(13, (25, [I (gi r124.1 0), I (gi r124.1 1), I (gi r124.1 2), V (.slice none 0 0)])), (5, (25, [I 0, I 0, I 0, V (.slice none 0 0)])), (13, (25, [I 0, I 0, I 0, V (.slice none 0 0)]))]⟩) kr ?_)
  intro a w144 χ145 hS hE
  replace hO := hO.mv hE rfl rfl
  replace hD := hD.ev hE rfl
  replace h107 := h107.mv hE rfl
  replace h110 := h110.mv hE rfl
  replace h117 := h117.mv hE rfl
  replace h120 := h120.mv hE rfl
  replace h127 := h127.mv hE rfl
  replace h133 := h133.mv hE rfl
  replace h136 := h136.mv hE rfl
  replace h139 := h139.mv hE rfl
  clear hE
  replace hS := hS.sl ⟨[(1, I end_), (4, Pt 5 0), (5, Sl a118 r114.2 c119), (8, Sl a105 r104.1 c106), (9, Sl a108 r104.2 c109), (10, Sl a115 r114.1 c116), (11, Sl a125 r124.1 c126), (53, V (.agg #[.int .i64 (gi r124.1 0), .int .i64 (gi r124.1 1), .int .i64 (gi r124.1 2), .slice none 0 0])), (12, Pt 13 0)], [(5, (25, [I 0, I 0, I 0, V (.slice none 0 0)])), (13, (25, [I (gi r124.1 0), I (gi r124.1 1), I (gi r124.1 2), V (.slice none 0 0)]))]⟩
  refine andH ((Hold.of hS (bks := [5]) kr hD).rho hr143 kr) ?_
  intro hH
  refine drawnDone kr ?_
  clear hD hH
  replace hS := hS.sl ⟨[(1, I end_), (4, Pt 5 0), (5, Sl a118 r114.2 c119), (8, Sl a105 r104.1 c106), (9, Sl a108 r104.2 c109), (10, Sl a115 r114.1 c116), (11, Sl a125 r124.1 c126), (12, Pt 13 0)], [(5, (25, [I 0, I 0, I 0, V (.slice none 0 0)])), (13, (25, [I (gi r124.1 0), I (gi r124.1 1), I (gi r124.1 2), V (.slice none 0 0)]))]⟩
  refine regO ?_
  refine op1 (lit (E := 3) (col := 1014) (T := tI) (vals := []) (ys := ([] : List Int)) T hS kr kr kr kr trivial rfl kr kr kr kr ?_)
  intro b146 a w147 χ148 hE h149 hN hS
  clear hN
  replace hO := hO.mv hE rfl rfl
  replace h107 := h107.mv hE rfl
  replace h110 := h110.mv hE rfl
  replace h117 := h117.mv hE rfl
  replace h120 := h120.mv hE rfl
  replace h127 := h127.mv hE rfl
  clear hE
  refine eP T hS ⟨[(1, I end_), (4, Pt 5 0), (5, Sl a118 r114.2 c119), (8, Sl a105 r104.1 c106), (9, Sl a108 r104.2 c109), (10, Sl a115 r114.1 c116), (11, Sl a125 r124.1 c126), (12, Pt 13 0), (13, Sl (some ⟨b146, 0, none⟩) ([] : List Int) 0)], [(5, (25, [I 0, I 0, I 0, V (.slice none 0 0)])), (13, (25, [I (gi r124.1 0), I (gi r124.1 1), I (gi r124.1 2), V (.slice none 0 0)]))]⟩ fun a hS => ?_
  refine wcut (fun a w => ∃ (ρ : Nat → Nat) (χ : Nat → Nat) (rest_150 : List (List Token_Token)) (places_155 : List Int) (x_159 : Int) (x_160 : Int) (x_161 : Int) (x_162 : List Api_Row) (a151 : Option Addr) (c152 : Nat) (a156 : Option Addr) (c157 : Nat) (a163 : Option Addr) (c164 : Nat), VC17_J1 end_ Q r114 rest_150 places_155 x_159 x_160 x_161 x_162 ∧ St Tryd.f17.ntmps ⟨[(1, I end_), (4, Pt 5 0), (5, Sl a151 rest_150 c152), (10, Sl a115 r114.1 c116), (12, Pt 13 0), (13, Sl a156 places_155 c157)], [(5, (25, [I 0, I 0, I 0, V (.slice none 0 0)])), (13, (25, [I x_159, I x_160, I x_161, Sl a163 x_162 c164]))]⟩ ρ a w χ ∧ Old w0 χ0 w χ ∧ RS (tSlice tToken_Token) w χ a151 rest_150 c152 ∧ RS tToken_Token w χ a115 r114.1 c116 ∧ OS tI 3 w χ 1014 a156 places_155 c157 ∧ OS tApi_Row 99 w χ 1089 a163 x_162 c164) ?_ ?_
  ·refine regO ?_
   refine oP T hS 1 ⟨[(1, I end_), (4, Pt 5 0), (5, Sl a118 r114.2 c119), (8, Sl a105 r104.1 c106), (9, Sl a108 r104.2 c109), (10, Sl a115 r114.1 c116), (12, Pt 13 0), (13, Sl (some ⟨b146, 0, none⟩) ([] : List Int) 0), (55, Sl a125 r124.1 c126)], [(5, (25, [I 0, I 0, I 0, V (.slice none 0 0)])), (13, (25, [I (gi r124.1 0), I (gi r124.1 1), I (gi r124.1 2), V (.slice none 0 0)]))]⟩ fun a hS => ?_
   obtain ⟨hq, hm⟩ := hm
   refine op1 (index (e := 3) (k := .i64) T hS kr kr kr kr h127 kr kr hq.1 hq.2 ?_)
   intro A241 a h242 hS
   clear hq
   refine op1 (load1 T hS kr kr kr h242 rfl kr ?_)
   intro v243 a hv hS
   cases hv
   refine eP T hS ⟨[(1, I end_), (4, Pt 5 0), (5, Sl a118 r114.2 c119), (8, Sl a105 r104.1 c106), (9, Sl a108 r104.2 c109), (10, Sl a115 r114.1 c116), (12, Pt 13 0), (13, Sl (some ⟨b146, 0, none⟩) ([] : List Int) 0), (57, I (gi r124.1 3)), (58, I 0)], [(5, (25, [I 0, I 0, I 0, V (.slice none 0 0)])), (13, (25, [I (gi r124.1 0), I (gi r124.1 1), I (gi r124.1 2), V (.slice none 0 0)]))]⟩ fun a hS => ?_
   refine wblock ?_
   obtain ⟨I1, μ1, hm0, hm⟩ := hm
   refine wloop (σ := (List (List Token_Token)) × (List Int) × Int × Int × Int × Int × (List Api_Row)) (fun s a w => ∃ (ρ : Nat → Nat) (χ : Nat → Nat) (a245 : Option Addr) (c246 : Nat) (a252 : Option Addr) (c253 : Nat) (a260 : Option Addr) (c261 : Nat), I1 s.1 s.2.1 s.2.2.1 s.2.2.2.1 s.2.2.2.2.1 s.2.2.2.2.2.1 s.2.2.2.2.2.2 ∧ St Tryd.f17.ntmps ⟨[(1, I end_), (4, Pt 5 0), (5, Sl a245 s.1 c246), (8, Sl a105 r104.1 c106), (9, Sl a108 r104.2 c109), (10, Sl a115 r114.1 c116), (12, Pt 13 0), (13, Sl a252 s.2.1 c253), (57, I (gi r124.1 3)), (58, I s.2.2.1)], [(5, (25, [I 0, I 0, I 0, V (.slice none 0 0)])), (13, (25, [I s.2.2.2.1, I s.2.2.2.2.1, I s.2.2.2.2.2.1, Sl a260 s.2.2.2.2.2.2 c261]))]⟩ ρ a w χ ∧ Old w0 χ0 w χ ∧ RS (tSlice tToken_Token) w χ a245 s.1 c246 ∧ RS tI w χ a105 r104.1 c106 ∧ RS tI w χ a108 r104.2 c109 ∧ RS tToken_Token w χ a115 r114.1 c116 ∧ OS tI 3 w χ 1014 a252 s.2.1 c253 ∧ OS tApi_Row 99 w χ 1089 a260 s.2.2.2.2.2.2 c261) (fun s => μ1 s.1 s.2.1 s.2.2.1 s.2.2.2.1 s.2.2.2.2.1 s.2.2.2.2.2.1 s.2.2.2.2.2.2) (⟨r114.2, ([] : List Int), 0, gi r124.1 0, gi r124.1 1, gi r124.1 2, []⟩) ?_ ?_
   ·exact ⟨ρ, _, a118, c119, (some ⟨b146, 0, none⟩), 0, none, 0, hm0, hS.sl _, hO, h120, h107, h110, h117, h149, (OS.nil _ _ _ _ _)⟩
   ·rintro ⟨rest_244, places_251, x_255, x_256, x_257, x_258, x_259⟩ a w345 ⟨ρ, χ344, a245, c246, a252, c253, a260, c261, hI, hS, hO, h247, h248, h249, h250, h254, h262⟩
    replace hm := hm rest_244 places_251 x_255 x_256 x_257 x_258 x_259 hI
    clear hI hm0
    refine rP T hS ⟨[(1, I end_), (4, Pt 5 0), (5, Sl a245 rest_244 c246), (8, Sl a105 r104.1 c106), (9, Sl a108 r104.2 c109), (10, Sl a115 r114.1 c116), (12, Pt 13 0), (13, Sl a252 places_251 c253), (57, I (gi r124.1 3)), (58, I x_255), (59, B (decide (x_255 < (gi r124.1 3))))], [(5, (25, [I 0, I 0, I 0, V (.slice none 0 0)])), (13, (25, [I x_256, I x_257, I x_258, Sl a260 x_259 c261]))]⟩ fun a hS => ?_
    refine wseq ?_
    refine wcond hS (b := decide (x_255 < (gi r124.1 3))) kr (fun hb => ?_) (fun hb => ?_)
    ·replace hm := hm.1 hb
     refine wskip ?_
     refine wseq ?_
     refine wblock ?_
     refine regO ?_
     refine oP T hS 1 ⟨[(1, I end_), (4, Pt 5 0), (8, Sl a105 r104.1 c106), (9, Sl a108 r104.2 c109), (10, Sl a115 r114.1 c116), (12, Pt 13 0), (13, Sl a252 places_251 c253), (57, I (gi r124.1 3)), (58, I x_255), (61, Sl a245 rest_244 c246)], [(5, (25, [I 0, I 0, I 0, V (.slice none 0 0)])), (13, (25, [I x_256, I x_257, I x_258, Sl a260 x_259 c261]))]⟩ fun a hS => ?_
     refine op1 (call hS kr kr hb41 kr (fun _ _ => rfl) (k41 _ _ rest_244 a245 c246 h247) ?_)
     intro v263 a w264 χ265 hE hp hS
     replace hO := hO.mv hE rfl rfl
     replace h247 := h247.mv hE rfl
     replace h248 := h248.mv hE rfl
     replace h249 := h249.mv hE rfl
     replace h250 := h250.mv hE rfl
     replace h254 := h254.mv hE rfl rfl
     replace h262 := h262.mv hE rfl rfl
     clear hE
     obtain ⟨a267, c268, a270, c271, hp, h269, h272⟩ := hp
     obtain ⟨r266, hr⟩ : ∃ r, objtext_next rest_244 = r := ⟨_, rfl⟩
     replace hm := hm r266 hr
     rw [hr] at hp h269 h272
     clear hr
     subst hp
     replace hm := hm (h269.sm kr)
     replace hm := hm (h272.sm kr)
     refine eP T hS ⟨[(1, I end_), (4, Pt 5 0), (8, Sl a105 r104.1 c106), (9, Sl a108 r104.2 c109), (10, Sl a115 r114.1 c116), (12, Pt 13 0), (13, Sl a252 places_251 c253), (14, Sl a267 r266.1 c268), (15, Sl a270 r266.2 c271), (57, I (gi r124.1 3)), (58, I x_255)], [(5, (25, [I 0, I 0, I 0, V (.slice none 0 0)])), (13, (25, [I x_256, I x_257, I x_258, Sl a260 x_259 c261]))]⟩ fun a hS => ?_
     refine rP T hS ⟨[(1, I end_), (4, Pt 5 0), (5, Sl a270 r266.2 c271), (8, Sl a105 r104.1 c106), (9, Sl a108 r104.2 c109), (10, Sl a115 r114.1 c116), (12, Pt 13 0), (13, Sl a252 places_251 c253), (14, Sl a267 r266.1 c268), (57, I (gi r124.1 3)), (58, I x_255)], [(5, (25, [I 0, I 0, I 0, V (.slice none 0 0)])), (13, (25, [I x_256, I x_257, I x_258, Sl a260 x_259 c261]))]⟩ fun a hS => ?_
     refine regO ?_
     refine oP T hS 4 ⟨[(1, I end_), (4, Pt 5 0), (5, Sl a270 r266.2 c271), (8, Sl a105 r104.1 c106), (9, Sl a108 r104.2 c109), (10, Sl a115 r114.1 c116), (12, Pt 13 0), (13, Sl a252 places_251 c253), (14, Sl a267 r266.1 c268), (57, I (gi r124.1 3)), (58, I x_255), (67, Sl a267 r266.1 c268), (68, Sl a105 r104.1 c106), (69, Sl a108 r104.2 c109), (70, I end_)], [(5, (25, [I 0, I 0, I 0, V (.slice none 0 0)])), (13, (25, [I x_256, I x_257, I x_258, Sl a260 x_259 c261]))]⟩ fun a hS => ?_
     obtain ⟨hq, hm⟩ := hm
     refine op1 (call hS kr kr hb42 kr (fun _ _ => rfl) (k42 _ _ r266.1 ([114, 111, 119] : List UInt8) r104.1 r104.2 end_ a267 c268 a105 c106 a108 c109 hq h269 h248 h249) ?_)
     intro v273 a w274 χ275 hE hp hS
     clear hq
     replace hO := hO.mv hE rfl rfl
     replace h248 := h248.mv hE rfl
     replace h249 := h249.mv hE rfl
     replace h250 := h250.mv hE rfl
     replace h254 := h254.mv hE rfl rfl
     replace h262 := h262.mv hE rfl rfl
     replace h269 := h269.mv hE rfl
     replace h272 := h272.mv hE rfl
     clear hE
     obtain ⟨a277, c278, hp, h279⟩ := hp
     obtain ⟨r276, hr⟩ : ∃ r, objtext_Numbers r266.1 ([114, 111, 119] : List UInt8) r104.1 r104.2 end_ = r := ⟨_, rfl⟩
     replace hm := hm r276 hr
     rw [hr] at hp h279
     clear hr
     subst hp
     replace hm := hm (h279.sm kr)
     refine eP T hS ⟨[(1, I end_), (4, Pt 5 0), (5, Sl a270 r266.2 c271), (8, Sl a105 r104.1 c106), (9, Sl a108 r104.2 c109), (10, Sl a115 r114.1 c116), (12, Pt 13 0), (13, Sl a252 places_251 c253), (14, Sl a267 r266.1 c268), (16, Sl a277 r276.1 c278), (17, I r276.2.1), (18, I r276.2.2), (57, I (gi r124.1 3)), (58, I x_255)], [(5, (25, [I 0, I 0, I 0, V (.slice none 0 0)])), (13, (25, [I x_256, I x_257, I x_258, Sl a260 x_259 c261]))]⟩ fun a hS => ?_
     refine wseq ?_
     refine rP T hS ⟨[(1, I end_), (4, Pt 5 0), (5, Sl a270 r266.2 c271), (8, Sl a105 r104.1 c106), (9, Sl a108 r104.2 c109), (10, Sl a115 r114.1 c116), (12, Pt 13 0), (13, Sl a252 places_251 c253), (14, Sl a267 r266.1 c268), (16, Sl a277 r276.1 c278), (17, I r276.2.1), (18, I r276.2.2), (57, I (gi r124.1 3)), (58, I x_255), (76, B (r276.2.2 != 0))], [(5, (25, [I 0, I 0, I 0, V (.slice none 0 0)])), (13, (25, [I x_256, I x_257, I x_258, Sl a260 x_259 c261]))]⟩ fun a hS => ?_
     refine wcond hS (b := (r276.2.2 != 0)) kr (fun hb => ?_) (fun hb => ?_)
     ·replace hm := hm.1 hb
      refine rM T hS ⟨[(4, Pt 5 0), (5, V (.slice none 0 0)), (6, I r276.2.1), (7, I r276.2.2)], [(5, (25, [I 0, I 0, I 0, V (.slice none 0 0)]))]⟩ fun ρ a w280 χ281 hS hE hr => ?_
      replace hO := hO.mv hE rfl rfl
      clear hE hr
      refine wret ?_
      exact fin T hS hO (fun c => c) rfl (r := [.agg #[.int .i64 0, .int .i64 0, .int .i64 0, .slice none 0 0], .slice none 0 0, .int .i64 r276.2.1, .int .i64 r276.2.2]) kr (fun χ' hM hC => ⟨((⟨0, 0, 0, []⟩ : Api_Object), [], r276.2.1, r276.2.2), hm, none, 0, none, 0, rfl, RS.empty _ _ _, RS.empty _ _ _⟩)
     ·replace hm := hm.2 hb
      refine wskip ?_
      refine regO ?_
      refine oP T hS 2 ⟨[(1, I end_), (4, Pt 5 0), (5, Sl a270 r266.2 c271), (8, Sl a105 r104.1 c106), (9, Sl a108 r104.2 c109), (10, Sl a115 r114.1 c116), (12, Pt 13 0), (13, Sl a252 places_251 c253), (16, Sl a277 r276.1 c278), (57, I (gi r124.1 3)), (58, I x_255), (80, Sl a252 places_251 c253), (81, Sl a267 r266.1 c268)], [(5, (25, [I 0, I 0, I 0, V (.slice none 0 0)])), (13, (25, [I x_256, I x_257, I x_258, Sl a260 x_259 c261]))]⟩ fun a hS => ?_
      obtain ⟨hq, hm⟩ := hm
      refine op1 (index (e := 49) (k := .i64) T hS kr kr kr kr h269 kr kr hq.1 hq.2 ?_)
      intro A282 a h283 hS
      clear hq
      refine op1 (fieldA (off := 1) (fsz := 1) (ft := 3) (TF := tI) (y := (gi r266.1 0).At) T hS kr kr kr h283 kr kr kr (fun cs h => Token_Token_f1 h) ?_)
      intro A284 a h285 hS
      refine op1 (load1 T hS kr kr kr h285 rfl kr ?_)
      intro v286 a hv hS
      cases hv
      refine op1 (lit (E := 3) (col := 0) (T := tI) (vals := [.int .i64 ((gi r266.1 0).At)]) (ys := [(gi r266.1 0).At]) T hS kr kr kr kr (by exact ⟨rfl, trivial⟩) rfl kr kr kr kr ?_)
      intro b287 a w288 χ289 hE h290 hN hS
      clear hN
      replace hO := hO.mv hE rfl rfl
      replace h248 := h248.mv hE rfl
      replace h249 := h249.mv hE rfl
      replace h250 := h250.mv hE rfl
      replace h254 := h254.mv hE rfl rfl
      replace h262 := h262.mv hE rfl rfl
      replace h269 := h269.mv hE rfl
      replace h272 := h272.mv hE rfl
      replace h279 := h279.mv hE rfl
      replace h283 := h283.mv hE rfl
      replace h285 := h285.mv hE rfl
      clear hE
      replace h290 := h290.rs0
      obtain ⟨hq, hm⟩ := hm
      obtain ⟨news, hN⟩ := h290.src
      refine op1 (append (E := 3) (T := tI) (col := 1014) (xs := places_251) T hS kr kr kr kr h254 hN kr kr kr kr hq ?_)
      intro a294 c295 a w291 χ292 hE h293 hS
      clear hq hN
      clear h254
      replace hO := hO.mv hE rfl rfl
      replace h248 := h248.mv hE rfl
      replace h249 := h249.mv hE rfl
      replace h250 := h250.mv hE rfl
      replace h262 := h262.mv hE rfl rfl
      replace h269 := h269.mv hE rfl
      replace h272 := h272.mv hE rfl
      replace h279 := h279.mv hE rfl
      replace h283 := h283.mv hE rfl
      replace h285 := h285.mv hE rfl
      replace h290 := h290.mv hE rfl
      clear hE
      refine eP T hS ⟨[(1, I end_), (4, Pt 5 0), (5, Sl a270 r266.2 c271), (8, Sl a105 r104.1 c106), (9, Sl a108 r104.2 c109), (10, Sl a115 r114.1 c116), (12, Pt 13 0), (13, Sl a294 (places_251 ++ [(gi r266.1 0).At]) c295), (16, Sl a277 r276.1 c278), (57, I (gi r124.1 3)), (58, I x_255)], [(5, (25, [I 0, I 0, I 0, V (.slice none 0 0)])), (13, (25, [I x_256, I x_257, I x_258, Sl a260 x_259 c261]))]⟩ fun a hS => ?_
      refine drawnX [5] mixed hS ?_
      intro w296 χ297 hS hE hD hH
      replace hO := hO.mv hE rfl rfl
      replace h248 := h248.mv hE rfl
      replace h249 := h249.mv hE rfl
      replace h250 := h250.mv hE rfl
      replace h262 := h262.mv hE rfl rfl
      replace h272 := h272.mv hE rfl
      replace h279 := h279.mv hE rfl
      replace h293 := h293.mv hE rfl rfl
      clear hE
      refine tk T [0, 2, 5, 8, 11] [5] hS hH #[true, false, true, false, false, true, false, false, true, false, false, true, false, false, false, false, false, false, false] 14 ⟨[(1, I end_), (4, Pt 5 0), (5, Sl a270 r266.2 c271), (8, Sl a105 r104.1 c106), (9, Sl a108 r104.2 c109), (10, Sl a115 r114.1 c116), (12, Pt 13 0), (13, Sl a294 (places_251 ++ [(gi r266.1 0).At]) c295), (57, I (gi r124.1 3)), (58, I x_255), (87, Pt 13 3), (89, Sl a277 r276.1 c278), (92, Sl a277 r276.1 c278), (95, Sl a277 r276.1 c278), (98, Sl a277 r276.1 c278)], [(5, (25, [I 0, I 0, I 0, V (.slice none 0 0)])), (13, (25, [I x_256, I x_257, I x_258, Sl a260 x_259 c261]))]⟩ fun a hS => ?_
      obtain ⟨hq, hm⟩ := hm
      refine dindex (e := 3) (k := .i64) T 3 hS kr kr kr (by rfl) kr hH kr kr h279 kr kr hq.1 hq.2 ?_
      intro A298 a h299 hS
      clear hq
      have h299b := h299.here
      refine dload1 T 4 hS kr kr kr (by rfl) kr hH kr h299 h299b rfl kr ?_
      intro v300 a hv hS
      cases hv
      obtain ⟨hq, hm⟩ := hm
      refine dindex (e := 3) (k := .i64) T 6 hS kr kr kr (by rfl) kr hH kr kr h279 kr kr hq.1 hq.2 ?_
      intro A301 a h302 hS
      clear hq
      have h302b := h302.here
      refine dload1 T 7 hS kr kr kr (by rfl) kr hH kr h302 h302b rfl kr ?_
      intro v303 a hv hS
      cases hv
      obtain ⟨hq, hm⟩ := hm
      refine dindex (e := 3) (k := .i64) T 9 hS kr kr kr (by rfl) kr hH kr kr h279 kr kr hq.1 hq.2 ?_
      intro A304 a h305 hS
      clear hq
      have h305b := h305.here
      refine dload1 T 10 hS kr kr kr (by rfl) kr hH kr h305 h305b rfl kr ?_
      intro v306 a hv hS
      cases hv
      obtain ⟨hq, hm⟩ := hm
      refine dindex (e := 3) (k := .i64) T 12 hS kr kr kr (by rfl) kr hH kr kr h279 kr kr hq.1 hq.2 ?_
      intro A307 a h308 hS
      clear hq
      have h308b := h308.here
      refine dload1 T 13 hS kr kr kr (by rfl) kr hH kr h308 h308b rfl kr ?_
      intro v309 a hv hS
      cases hv
      refine tk T [14] [5] hS hH #[true, false, true, true, true, true, true, true, true, true, true, true, true, true, true, false, false, false, false] 5 ⟨[(1, I end_), (4, Pt 5 0), (5, Sl a270 r266.2 c271), (8, Sl a105 r104.1 c106), (9, Sl a108 r104.2 c109), (10, Sl a115 r114.1 c116), (12, Pt 13 0), (13, Sl a294 (places_251 ++ [(gi r266.1 0).At]) c295), (57, I (gi r124.1 3)), (58, I x_255), (87, Pt 13 3), (101, V (.agg #[.int .i64 (gi r276.1 0), .int .i64 (gi r276.1 1), .int .i64 (gi r276.1 2), .int .i64 (gi r276.1 3)]))], [(5, (25, [I 0, I 0, I 0, V (.slice none 0 0)])), (13, (25, [I x_256, I x_257, I x_258, Sl a260 x_259 c261]))]⟩ fun a hS => ?_
      refine drcut (fun a w => ∃ (χ : Nat → Nat) (a325 : Option Addr) (c326 : Nat), St Tryd.f17.ntmps ⟨[(1, I end_), (4, Pt 5 0), (5, Sl a270 r266.2 c271), (8, Sl a105 r104.1 c106), (9, Sl a108 r104.2 c109), (10, Sl a115 r114.1 c116), (12, Pt 13 0), (13, Sl a294 (places_251 ++ [(gi r266.1 0).At]) c295), (57, I (gi r124.1 3)), (58, I x_255), (88, Sl a260 x_259 c261), (102, Sl a325 [(⟨gi r276.1 0, gi r276.1 1, gi r276.1 2, gi r276.1 3⟩ : Api_Row)] c326)], [(5, (25, [I 0, I 0, I 0, V (.slice none 0 0)])), (13, (25, [I x_256, I x_257, I x_258, Sl a260 x_259 c261]))]⟩ ρ a w χ ∧ Old w0 χ0 w χ ∧ M0 w296 χ297 w χ ∧ Hold w296 χ297 (filt [5] ⟨[(1, I end_), (4, Pt 5 0), (5, Sl a270 r266.2 c271), (8, Sl a105 r104.1 c106), (9, Sl a108 r104.2 c109), (10, Sl a115 r114.1 c116), (12, Pt 13 0), (13, Sl a294 (places_251 ++ [(gi r266.1 0).At]) c295), (16, Sl a277 r276.1 c278), (57, I (gi r124.1 3)), (58, I x_255)], [(5, (25, [I 0, I 0, I 0, V (.slice none 0 0)])), (13, (25, [I x_256, I x_257, I x_258, Sl a260 x_259 c261]))]⟩) ρ w ∧ RS (tSlice tToken_Token) w χ a270 r266.2 c271 ∧ RS tI w χ a105 r104.1 c106 ∧ RS tI w χ a108 r104.2 c109 ∧ RS tToken_Token w χ a115 r114.1 c116 ∧ OS tI 3 w χ 1014 a294 (places_251 ++ [(gi r266.1 0).At]) c295 ∧ OS tApi_Row 99 w χ 1089 a260 x_259 c261 ∧ RS tApi_Row w χ a325 [(⟨gi r276.1 0, gi r276.1 1, gi r276.1 2, gi r276.1 3⟩ : Api_Row)] c326) #[true, true, true, true, true, true, true, true, true, true, true, true, true, true, true, true, false, false, false] 3 ?_ (fun H => ?_)
      ·rintro a w336 ⟨χ335, a325, c326, hS, hO, hD, hH, h318, h319, h320, h321, h322, h323, h324⟩
       obtain ⟨hq, hm⟩ := hm
       obtain ⟨news, hN⟩ := h324.src
       refine only 16 kr (by rfl) (append (E := 99) (T := tApi_Row) (col := 1089) (xs := x_259) T hS kr kr kr kr h323 hN kr kr kr kr hq ?_)
       intro a340 c341 a w337 χ338 hE h339 hS
       clear hq hN
       clear h323
       replace hO := hO.mv hE rfl rfl
       replace hD := hD.ev hE rfl
       replace h318 := h318.mv hE rfl
       replace h319 := h319.mv hE rfl
       replace h320 := h320.mv hE rfl
       replace h321 := h321.mv hE rfl
       replace h322 := h322.mv hE rfl rfl
       replace h324 := h324.mv hE rfl
       clear hE
       replace hS := hS.sl ⟨[(1, I end_), (4, Pt 5 0), (5, Sl a270 r266.2 c271), (8, Sl a105 r104.1 c106), (9, Sl a108 r104.2 c109), (10, Sl a115 r114.1 c116), (12, Pt 13 0), (13, Sl a294 (places_251 ++ [(gi r266.1 0).At]) c295), (57, I (gi r124.1 3)), (58, I x_255), (102, Sl a325 [(⟨gi r276.1 0, gi r276.1 1, gi r276.1 2, gi r276.1 3⟩ : Api_Row)] c326), (103, Sl a340 (x_259 ++ [(⟨gi r276.1 0, gi r276.1 1, gi r276.1 2, gi r276.1 3⟩ : Api_Row)]) c341)], [(5, (25, [I 0, I 0, I 0, V (.slice none 0 0)])), (13, (25, [I x_256, I x_257, I x_258, Sl a260 x_259 c261]))]⟩
       refine andH (Hold.of hS (bks := [5]) kr hD) ?_
       intro hH
       refine tk T [17] [5] hS hH #[true, true, true, true, true, true, true, true, true, true, true, true, true, true, true, true, true, true, false] 1 ⟨[(1, I end_), (4, Pt 5 0), (5, Sl a270 r266.2 c271), (8, Sl a105 r104.1 c106), (9, Sl a108 r104.2 c109), (10, Sl a115 r114.1 c116), (12, Pt 13 0), (13, Sl a294 (places_251 ++ [(gi r266.1 0).At]) c295), (57, I (gi r124.1 3)), (58, I x_255), (103, Sl a340 (x_259 ++ [(⟨gi r276.1 0, gi r276.1 1, gi r276.1 2, gi r276.1 3⟩ : Api_Row)]) c341), (104, Pt 13 3)], [(5, (25, [I 0, I 0, I 0, V (.slice none 0 0)])), (13, (25, [I x_256, I x_257, I x_258, Sl a260 x_259 c261]))]⟩ fun a hS => ?_
       replace hS := hS.sl ⟨[(1, I end_), (4, Pt 5 0), (5, Sl a270 r266.2 c271), (8, Sl a105 r104.1 c106), (9, Sl a108 r104.2 c109), (10, Sl a115 r114.1 c116), (12, Pt 13 0), (13, Sl a294 (places_251 ++ [(gi r266.1 0).At]) c295), (57, I (gi r124.1 3)), (58, I x_255), (103, Sl a340 (x_259 ++ [(⟨gi r276.1 0, gi r276.1 1, gi r276.1 2, gi r276.1 3⟩ : Api_Row)]) c341), (104, Pt 13 3)], [(5, (25, [I 0, I 0, I 0, V (.slice none 0 0)])), (13, (25, [I x_256, I x_257, I x_258, Sl a260 x_259 c261]))]⟩
       refine only 18 kr (by rfl) (store1 T hS kr kr (sy' := ⟨[(1, I end_), (4, Pt 5 0), (5, Sl a270 r266.2 c271), (8, Sl a105 r104.1 c106), (9, Sl a108 r104.2 c109), (10, Sl a115 r114.1 c116), (12, Pt 13 0), (13, Sl a294 (places_251 ++ [(gi r266.1 0).At]) c295), (57, I (gi r124.1 3)), (58, I x_255), (103, Sl a340 (x_259 ++ [(⟨gi r276.1 0, gi r276.1 1, gi r276.1 2, gi r276.1 3⟩ : Api_Row)]) c341), (104, Pt 13 3)], [(13, (25, [I x_256, I x_257, I x_258, Sl a340 (x_259 ++ [(⟨gi r276.1 0, gi r276.1 1, gi r276.1 2, gi r276.1 3⟩ : Api_Row)]) c341])), (5, (25, [I 0, I 0, I 0, V (.slice none 0 0)])), (13, (25, [I x_256, I x_257, I x_258, Sl a260 x_259 c261]))]⟩) kr ?_)
       intro a w342 χ343 hS hE
       replace hO := hO.mv hE rfl rfl
       replace hD := hD.ev hE rfl
       replace h318 := h318.mv hE rfl
       replace h319 := h319.mv hE rfl
       replace h320 := h320.mv hE rfl
       replace h321 := h321.mv hE rfl
       replace h322 := h322.mv hE rfl rfl
       replace h324 := h324.mv hE rfl
       replace h339 := h339.mv hE rfl rfl
       clear hE
       replace hS := hS.sl ⟨[(1, I end_), (4, Pt 5 0), (5, Sl a270 r266.2 c271), (8, Sl a105 r104.1 c106), (9, Sl a108 r104.2 c109), (10, Sl a115 r114.1 c116), (12, Pt 13 0), (13, Sl a294 (places_251 ++ [(gi r266.1 0).At]) c295), (57, I (gi r124.1 3)), (58, I x_255), (103, Sl a340 (x_259 ++ [(⟨gi r276.1 0, gi r276.1 1, gi r276.1 2, gi r276.1 3⟩ : Api_Row)]) c341), (104, Pt 13 3)], [(5, (25, [I 0, I 0, I 0, V (.slice none 0 0)])), (13, (25, [I x_256, I x_257, I x_258, Sl a340 (x_259 ++ [(⟨gi r276.1 0, gi r276.1 1, gi r276.1 2, gi r276.1 3⟩ : Api_Row)]) c341]))]⟩
       refine andH (Hold.of hS (bks := [5]) kr hD) ?_
       intro hH
       refine drawnDone kr ?_
       clear hD hH
       replace hS := hS.sl ⟨[(1, I end_), (4, Pt 5 0), (5, Sl a270 r266.2 c271), (8, Sl a105 r104.1 c106), (9, Sl a108 r104.2 c109), (10, Sl a115 r114.1 c116), (12, Pt 13 0), (13, Sl a294 (places_251 ++ [(gi r266.1 0).At]) c295), (57, I (gi r124.1 3)), (58, I x_255)], [(5, (25, [I 0, I 0, I 0, V (.slice none 0 0)])), (13, (25, [I x_256, I x_257, I x_258, Sl a340 (x_259 ++ [(⟨gi r276.1 0, gi r276.1 1, gi r276.1 2, gi r276.1 3⟩ : Api_Row)]) c341]))]⟩
       refine region (eP T hS ⟨[(1, I end_), (4, Pt 5 0), (5, Sl a270 r266.2 c271), (8, Sl a105 r104.1 c106), (9, Sl a108 r104.2 c109), (10, Sl a115 r114.1 c116), (12, Pt 13 0), (13, Sl a294 (places_251 ++ [(gi r266.1 0).At]) c295), (57, I (gi r124.1 3)), (58, I (IntKind.i64.wrap (x_255 + 1)))], [(5, (25, [I 0, I 0, I 0, V (.slice none 0 0)])), (13, (25, [I x_256, I x_257, I x_258, Sl a340 (x_259 ++ [(⟨gi r276.1 0, gi r276.1 1, gi r276.1 2, gi r276.1 3⟩ : Api_Row)]) c341]))]⟩ fun a hS => ?_)
       exact ⟨⟨r266.2, places_251 ++ [(gi r266.1 0).At], IntKind.i64.wrap (x_255 + 1), x_256, x_257, x_258, x_259 ++ [(⟨gi r276.1 0, gi r276.1 1, gi r276.1 2, gi r276.1 3⟩ : Api_Row)]⟩, ⟨ρ, _, a270, c271, a294, c295, a340, c341, hm.1, hS.sl _, hO, h318, h319, h320, h321, h322, h339⟩, hm.2⟩
      ·clear hm
       refine anyOf (is := [1, 15]) kr (by decide) ?_
       intro i hi
       rcases mem2 hi with rfl | rfl
       ·refine oneOp (by rfl) (plain1 T hS kr kr kr (sv := Sl a260 x_259 c261) kr ?_)
        intro a hS
        refine andH (Hold.of hS (bks := [5]) kr hD) ?_
        intro hH
        refine only 15 kr (by rfl) (lit (E := 99) (col := 0) (T := tApi_Row) (vals := [.agg #[.int .i64 (gi r276.1 0), .int .i64 (gi r276.1 1), .int .i64 (gi r276.1 2), .int .i64 (gi r276.1 3)]]) (ys := [(⟨gi r276.1 0, gi r276.1 1, gi r276.1 2, gi r276.1 3⟩ : Api_Row)]) T hS kr kr kr kr (by exact ⟨rfl, trivial⟩) rfl kr kr kr kr ?_)
        intro b327 a w328 χ329 hE h330 hN hS
        clear hN
        replace hO := hO.mv hE rfl rfl
        replace hD := hD.ev hE rfl
        replace h248 := h248.mv hE rfl
        replace h249 := h249.mv hE rfl
        replace h250 := h250.mv hE rfl
        replace h262 := h262.mv hE rfl rfl
        replace h272 := h272.mv hE rfl
        replace h279 := h279.mv hE rfl
        replace h293 := h293.mv hE rfl rfl
        replace h299 := h299.mv hE rfl
        replace h302 := h302.mv hE rfl
        replace h305 := h305.mv hE rfl
        replace h308 := h308.mv hE rfl
        clear hE
        replace h330 := h330.rs0
        refine andH (Hold.of hS (bks := [5]) kr hD) ?_
        intro hH
        exact H _ _ ⟨_, (some ⟨b327, 0, none⟩), 1, hS.sl _, hO, hD, hH, h272, h248, h249, h250, h293, h262, h330⟩
       ·refine oneOp (by rfl) (lit (E := 99) (col := 0) (T := tApi_Row) (vals := [.agg #[.int .i64 (gi r276.1 0), .int .i64 (gi r276.1 1), .int .i64 (gi r276.1 2), .int .i64 (gi r276.1 3)]]) (ys := [(⟨gi r276.1 0, gi r276.1 1, gi r276.1 2, gi r276.1 3⟩ : Api_Row)]) T hS kr kr kr kr (by exact ⟨rfl, trivial⟩) rfl kr kr kr kr ?_)
        intro b331 a w332 χ333 hE h334 hN hS
        clear hN
        replace hO := hO.mv hE rfl rfl
        replace hD := hD.ev hE rfl
        replace h248 := h248.mv hE rfl
        replace h249 := h249.mv hE rfl
        replace h250 := h250.mv hE rfl
        replace h262 := h262.mv hE rfl rfl
        replace h272 := h272.mv hE rfl
        replace h279 := h279.mv hE rfl
        replace h293 := h293.mv hE rfl rfl
        replace h299 := h299.mv hE rfl
        replace h302 := h302.mv hE rfl
        replace h305 := h305.mv hE rfl
        replace h308 := h308.mv hE rfl
        clear hE
        replace h334 := h334.rs0
        refine andH (Hold.of hS (bks := [5]) kr hD) ?_
        intro hH
        refine only 1 kr (by rfl) (plain1 T hS kr kr kr (sv := Sl a260 x_259 c261) kr ?_)
        intro a hS
        refine andH (Hold.of hS (bks := [5]) kr hD) ?_
        intro hH
        exact H _ _ ⟨_, (some ⟨b331, 0, none⟩), 1, hS.sl _, hO, hD, hH, h272, h248, h249, h250, h293, h262, h334⟩
    ·replace hm := hm.2 hb
     refine wexit (by rfl) ?_
     exact ⟨ρ, _, rest_244, places_251, x_256, x_257, x_258, x_259, a245, c246, a252, c253, a260, c261, hm, hS.sl _, hO, h247, h250, h254, h262⟩
  ·rintro a w347 ⟨ρ, χ346, rest_150, places_155, x_159, x_160, x_161, x_162, a151, c152, a156, c157, a163, c164, hm, hS, hO, h153, h154, h158, h165⟩
   unfold VC17_J1 at hm
   refine wseq ?_
   refine regO ?_
   refine oP T hS 1 ⟨[(1, I end_), (4, Pt 5 0), (5, Sl a151 rest_150 c152), (10, Sl a115 r114.1 c116), (12, Pt 13 0), (13, Sl a156 places_155 c157), (107, V (.agg #[.int .i64 x_159, .int .i64 x_160, .int .i64 x_161, .slice a163 x_162.length c164]))], [(5, (25, [I 0, I 0, I 0, V (.slice none 0 0)])), (13, (25, [I x_159, I x_160, I x_161, Sl a163 x_162 c164]))]⟩ fun a hS => ?_
   obtain ⟨hq, hm⟩ := hm
   refine op1 (call hS kr kr hb32 kr (fun _ _ => rfl) (Ret.unlend (k32 _ (lend 1089 _) (⟨x_159, x_160, x_161, x_162⟩ : Api_Object) a163 c164 hq h165.lend)) ?_)
   intro v166 a w167 χ168 hE hp hS
   clear hq
   replace hO := hO.mv hE rfl rfl
   replace h153 := h153.mv hE rfl
   replace h154 := h154.mv hE rfl
   replace h158 := h158.mv hE rfl rfl
   replace h165 := h165.mv hE rfl rfl
   clear hE
   obtain ⟨_, hp⟩ := hp
   obtain ⟨r169, hr⟩ : ∃ r, object_Check (⟨x_159, x_160, x_161, x_162⟩ : Api_Object) = r := ⟨_, rfl⟩
   replace hm := hm r169 hr
   rw [hr] at hp
   clear hr
   subst hp
   refine eP T hS ⟨[(1, I end_), (4, Pt 5 0), (5, Sl a151 rest_150 c152), (10, Sl a115 r114.1 c116), (12, Pt 13 0), (13, Sl a156 places_155 c157), (19, I r169.1), (20, I r169.2)], [(5, (25, [I 0, I 0, I 0, V (.slice none 0 0)])), (13, (25, [I x_159, I x_160, I x_161, Sl a163 x_162 c164]))]⟩ fun a hS => ?_
   refine rP T hS ⟨[(1, I end_), (4, Pt 5 0), (5, Sl a151 rest_150 c152), (10, Sl a115 r114.1 c116), (12, Pt 13 0), (13, Sl a156 places_155 c157), (19, I r169.1), (20, I r169.2), (112, B (r169.2 != 0))], [(5, (25, [I 0, I 0, I 0, V (.slice none 0 0)])), (13, (25, [I x_159, I x_160, I x_161, Sl a163 x_162 c164]))]⟩ fun a hS => ?_
   refine wcond hS (b := (r169.2 != 0)) kr (fun hb => ?_) (fun hb => ?_)
   ·replace hm := hm.1 hb
    replace hS := hS.sl ⟨[(4, Pt 5 0), (5, Sl a151 rest_150 c152), (10, Sl a115 r114.1 c116), (13, Sl a156 places_155 c157), (19, I r169.1), (20, I r169.2)], [(5, (25, [I 0, I 0, I 0, V (.slice none 0 0)]))]⟩
    refine drawnSX [] mixed hS ?_
    intro w170 χ171 hS hE hD hH
    replace hO := hO.mv hE rfl rfl
    replace h153 := h153.mv hE rfl
    replace h154 := h154.mv hE rfl
    replace h158 := h158.mv hE rfl rfl
    clear hE
    refine tk T [0, 1, 6, 8, 12, 9] [] hS hH #[true, true, false, false, false, false, true, false, true, true, false, false, true, false, false, false, false] 11 ⟨[(4, Pt 5 0), (5, Sl a151 rest_150 c152), (113, V (.agg #[.int .i64 0, .int .i64 0, .int .i64 0, .slice none 0 0])), (114, Sl a115 r114.1 c116), (119, Sl a156 places_155 c157), (122, I (IntKind.i64.wrap (r169.1 + 1))), (125, I r169.2)], [(5, (25, [I 0, I 0, I 0, V (.slice none 0 0)]))]⟩ fun a hS => ?_
    obtain ⟨hq, hm⟩ := hm
    refine dindex (e := 49) (k := .i64) T 2 hS kr kr kr (by rfl) kr hH kr kr h154 kr kr hq.1 hq.2 ?_
    intro A172 a h173 hS
    clear hq
    have h173b := h173.here
    refine dfieldA (off := 1) (fsz := 1) (ft := 3) (TF := tI) (y := (gi r114.1 0).At) 3 T hS kr kr kr (by rfl) kr hH kr h173 kr kr kr (fun cs h => Token_Token_f1 h) ?_
    intro A174 a h175 hbl hS
    have h175b := h173b
    rw [← hbl] at h175b
    clear hbl
    refine dload1 T 4 hS kr kr kr (by rfl) kr hH kr h175 h175b rfl kr ?_
    intro v176 a hv hS
    cases hv
    refine only 5 kr (by rfl) (lit (E := 3) (col := 1119) (T := tI) (vals := [.int .i64 ((gi r114.1 0).At)]) (ys := [(gi r114.1 0).At]) T hS kr kr kr kr (by exact ⟨rfl, trivial⟩) rfl kr kr kr kr ?_)
    intro b177 a w178 χ179 hE h180 hN hS
    clear hN
    replace hO := hO.mv hE rfl rfl
    replace hD := hD.ev hE rfl
    replace h153 := h153.mv hE rfl
    replace h154 := h154.mv hE rfl
    replace h158 := h158.mv hE rfl rfl
    replace h173 := h173.mv hE rfl
    replace h175 := h175.mv hE rfl
    clear hE
    refine andH (Hold.of hS (bks := []) kr hD) ?_
    intro hH
    obtain ⟨hq, hm⟩ := hm
    obtain ⟨news, hN⟩ := h158.src
    refine only 7 kr (by rfl) (append (E := 3) (T := tI) (col := 1119) (xs := [(gi r114.1 0).At]) T hS kr kr kr kr h180 hN kr kr kr kr hq ?_)
    intro a184 c185 a w181 χ182 hE h183 hS
    clear hq hN
    clear h180
    replace hO := hO.mv hE rfl rfl
    replace hD := hD.ev hE rfl
    replace h153 := h153.mv hE rfl
    replace h154 := h154.mv hE rfl
    replace h158 := h158.mv hE rfl rfl
    replace h173 := h173.mv hE rfl
    replace h175 := h175.mv hE rfl
    clear hE
    replace hS := hS.sl ⟨[(4, Pt 5 0), (5, Sl a151 rest_150 c152), (113, V (.agg #[.int .i64 0, .int .i64 0, .int .i64 0, .slice none 0 0])), (114, Sl a115 r114.1 c116), (119, Sl a156 places_155 c157), (122, I (IntKind.i64.wrap (r169.1 + 1))), (125, I r169.2), (115, V (.pointer (some A172))), (116, V (.pointer (some A174))), (117, I ((gi r114.1 0).At)), (120, Sl a184 ([(gi r114.1 0).At] ++ places_155) c185)], [(5, (25, [I 0, I 0, I 0, V (.slice none 0 0)]))]⟩
    refine andH (Hold.of hS (bks := []) kr hD) ?_
    intro hH
    obtain ⟨hgq10, hm⟩ := hm
    refine drcut (fun a w => ∃ (χ : Nat → Nat), St Tryd.f17.ntmps ⟨[(4, Pt 5 0), (5, V (.slice none 0 0)), (6, I (gi ([(gi r114.1 0).At] ++ places_155) (IntKind.i64.wrap (r169.1 + 1)))), (7, I r169.2)], [(5, (25, [I 0, I 0, I 0, V (.slice none 0 0)]))]⟩ ρ a w χ ∧ Old w0 χ0 w χ ∧ M0 w170 χ171 w χ ∧ Hold w170 χ171 (filt [] ⟨[(4, Pt 5 0), (5, Sl a151 rest_150 c152), (10, Sl a115 r114.1 c116), (13, Sl a156 places_155 c157), (19, I r169.1), (20, I r169.2)], [(5, (25, [I 0, I 0, I 0, V (.slice none 0 0)]))]⟩) ρ w) #[true, true, true, true, true, true, true, true, true, true, true, true, true, true, true, true, true] 0 ?_ (fun H => ?_)
    ·rintro a w236 ⟨χ235, hS, hO, hD, hH⟩
     clear hgq10
     refine drawnDone kr ?_
     clear hD hH
     replace hS := hS.sl ⟨[(4, Pt 5 0), (5, V (.slice none 0 0)), (6, I (gi ([(gi r114.1 0).At] ++ places_155) (IntKind.i64.wrap (r169.1 + 1)))), (7, I r169.2)], [(5, (25, [I 0, I 0, I 0, V (.slice none 0 0)]))]⟩
     refine wret ?_
     exact fin T hS hO (fun c => c) rfl (r := [.agg #[.int .i64 0, .int .i64 0, .int .i64 0, .slice none 0 0], .slice none 0 0, .int .i64 (gi ([(gi r114.1 0).At] ++ places_155) (IntKind.i64.wrap (r169.1 + 1))), .int .i64 r169.2]) kr (fun χ' hM hC => ⟨((⟨0, 0, 0, []⟩ : Api_Object), [], gi ([(gi r114.1 0).At] ++ places_155) (IntKind.i64.wrap (r169.1 + 1)), r169.2), hm, none, 0, none, 0, rfl, RS.empty _ _ _, RS.empty _ _ _⟩)
    ·clear hm
     refine anyOf (is := [10, 13]) kr (by decide) ?_
     intro i hi
     rcases mem2 hi with rfl | rfl
     ·obtain ⟨χ218, hE, hF⟩ := h183.freeze (by decide)
      replace hS := hS.ev hE (xone_box kr)
      replace hO := hO.mv hE rfl rfl
      replace hD := hD.ev hE rfl
      replace h153 := h153.mv hE rfl
      replace h154 := h154.mv hE rfl
      replace h158 := h158.mv hE rfl rfl
      replace h173 := h173.mv hE rfl
      replace h175 := h175.mv hE rfl
      have h219 := hF; clear hE hF
      have hq := hgq10
      refine oneOp (by rfl) (index (e := 3) (k := .i64) T hS kr kr kr kr h219 kr kr hq.1 hq.2 ?_)
      intro A220 a h221 hS
      clear hq
      refine andH (Hold.of hS (bks := []) kr hD) ?_
      intro hH
      refine anyOf (is := [11, 13]) kr (by decide) ?_
      intro i hi
      rcases mem2 hi with rfl | rfl
      ·refine oneOp (by rfl) (load1 T hS kr kr kr h221 rfl kr ?_)
       intro v222 a hv hS
       cases hv
       refine andH (Hold.of hS (bks := []) kr hD) ?_
       intro hH
       replace hS := hS.sl ⟨[(4, Pt 5 0), (5, Sl a151 rest_150 c152), (113, V (.agg #[.int .i64 0, .int .i64 0, .int .i64 0, .slice none 0 0])), (114, Sl a115 r114.1 c116), (119, Sl a156 places_155 c157), (122, I (IntKind.i64.wrap (r169.1 + 1))), (125, I r169.2), (115, V (.pointer (some A172))), (116, V (.pointer (some A174))), (117, I ((gi r114.1 0).At)), (120, Sl a184 ([(gi r114.1 0).At] ++ places_155) c185), (123, V (.pointer (some A220))), (124, I (gi ([(gi r114.1 0).At] ++ places_155) (IntKind.i64.wrap (r169.1 + 1))))], [(5, (25, [I 0, I 0, I 0, V (.slice none 0 0)]))]⟩
       refine only 13 kr (by rfl) (store1 T hS kr kr (sy' := ⟨[(4, Pt 5 0), (5, Sl a151 rest_150 c152), (113, V (.agg #[.int .i64 0, .int .i64 0, .int .i64 0, .slice none 0 0])), (114, Sl a115 r114.1 c116), (119, Sl a156 places_155 c157), (122, I (IntKind.i64.wrap (r169.1 + 1))), (125, I r169.2), (115, V (.pointer (some A172))), (116, V (.pointer (some A174))), (117, I ((gi r114.1 0).At)), (120, Sl a184 ([(gi r114.1 0).At] ++ places_155) c185), (123, V (.pointer (some A220))), (124, I (gi ([(gi r114.1 0).At] ++ places_155) (IntKind.i64.wrap (r169.1 + 1))))], [(5, (25, [I 0, I 0, I 0, V (.slice none 0 0)])), (5, (25, [I 0, I 0, I 0, V (.slice none 0 0)]))]⟩) kr ?_)
       intro a w223 χ224 hS hE
       replace hO := hO.mv hE rfl rfl
       replace hD := hD.ev hE rfl
       replace h153 := h153.mv hE rfl
       replace h154 := h154.mv hE rfl
       replace h158 := h158.mv hE rfl rfl
       replace h173 := h173.mv hE rfl
       replace h175 := h175.mv hE rfl
       replace h219 := h219.mv hE rfl
       replace h221 := h221.mv hE rfl
       clear hE
       replace hS := hS.sl ⟨[(4, Pt 5 0), (5, Sl a151 rest_150 c152), (113, V (.agg #[.int .i64 0, .int .i64 0, .int .i64 0, .slice none 0 0])), (114, Sl a115 r114.1 c116), (119, Sl a156 places_155 c157), (122, I (IntKind.i64.wrap (r169.1 + 1))), (125, I r169.2), (115, V (.pointer (some A172))), (116, V (.pointer (some A174))), (117, I ((gi r114.1 0).At)), (120, Sl a184 ([(gi r114.1 0).At] ++ places_155) c185), (123, V (.pointer (some A220))), (124, I (gi ([(gi r114.1 0).At] ++ places_155) (IntKind.i64.wrap (r169.1 + 1))))], [(5, (25, [I 0, I 0, I 0, V (.slice none 0 0)]))]⟩
       refine andH (Hold.of hS (bks := []) kr hD) ?_
       intro hH
       refine tk T [14, 15, 16] [] hS hH #[true, true, true, true, true, true, true, true, true, true, true, true, true, true, true, true, true] 0 ⟨[(4, Pt 5 0), (5, V (.slice none 0 0)), (6, I (gi ([(gi r114.1 0).At] ++ places_155) (IntKind.i64.wrap (r169.1 + 1)))), (7, I r169.2)], [(5, (25, [I 0, I 0, I 0, V (.slice none 0 0)]))]⟩ fun a hS => ?_
       exact H _ _ ⟨_, hS.sl _, hO, hD, hH⟩
      ·replace hS := hS.sl ⟨[(4, Pt 5 0), (5, Sl a151 rest_150 c152), (113, V (.agg #[.int .i64 0, .int .i64 0, .int .i64 0, .slice none 0 0])), (114, Sl a115 r114.1 c116), (119, Sl a156 places_155 c157), (122, I (IntKind.i64.wrap (r169.1 + 1))), (125, I r169.2), (115, V (.pointer (some A172))), (116, V (.pointer (some A174))), (117, I ((gi r114.1 0).At)), (120, Sl a184 ([(gi r114.1 0).At] ++ places_155) c185), (123, V (.pointer (some A220)))], [(5, (25, [I 0, I 0, I 0, V (.slice none 0 0)]))]⟩
       refine oneOp (by rfl) (store1 T hS kr kr (sy' := ⟨[(4, Pt 5 0), (5, Sl a151 rest_150 c152), (113, V (.agg #[.int .i64 0, .int .i64 0, .int .i64 0, .slice none 0 0])), (114, Sl a115 r114.1 c116), (119, Sl a156 places_155 c157), (122, I (IntKind.i64.wrap (r169.1 + 1))), (125, I r169.2), (115, V (.pointer (some A172))), (116, V (.pointer (some A174))), (117, I ((gi r114.1 0).At)), (120, Sl a184 ([(gi r114.1 0).At] ++ places_155) c185), (123, V (.pointer (some A220)))], [(5, (25, [I 0, I 0, I 0, V (.slice none 0 0)])), (5, (25, [I 0, I 0, I 0, V (.slice none 0 0)]))]⟩) kr ?_)
       intro a w225 χ226 hS hE
       replace hO := hO.mv hE rfl rfl
       replace hD := hD.ev hE rfl
       replace h153 := h153.mv hE rfl
       replace h154 := h154.mv hE rfl
       replace h158 := h158.mv hE rfl rfl
       replace h173 := h173.mv hE rfl
       replace h175 := h175.mv hE rfl
       replace h219 := h219.mv hE rfl
       replace h221 := h221.mv hE rfl
       clear hE
       replace hS := hS.sl ⟨[(4, Pt 5 0), (5, Sl a151 rest_150 c152), (113, V (.agg #[.int .i64 0, .int .i64 0, .int .i64 0, .slice none 0 0])), (114, Sl a115 r114.1 c116), (119, Sl a156 places_155 c157), (122, I (IntKind.i64.wrap (r169.1 + 1))), (125, I r169.2), (115, V (.pointer (some A172))), (116, V (.pointer (some A174))), (117, I ((gi r114.1 0).At)), (120, Sl a184 ([(gi r114.1 0).At] ++ places_155) c185), (123, V (.pointer (some A220)))], [(5, (25, [I 0, I 0, I 0, V (.slice none 0 0)]))]⟩
       refine andH (Hold.of hS (bks := []) kr hD) ?_
       intro hH
       refine tk T [14] [] hS hH #[true, true, true, true, true, true, true, true, true, true, true, false, true, true, true, false, false] 3 ⟨[(4, Pt 5 0), (5, V (.slice none 0 0)), (123, V (.pointer (some A220))), (125, I r169.2)], [(5, (25, [I 0, I 0, I 0, V (.slice none 0 0)]))]⟩ fun a hS => ?_
       refine only 11 kr (by rfl) (load1 T hS kr kr kr h221 rfl kr ?_)
       intro v227 a hv hS
       cases hv
       refine andH (Hold.of hS (bks := []) kr hD) ?_
       intro hH
       refine tk T [15, 16] [] hS hH #[true, true, true, true, true, true, true, true, true, true, true, true, true, true, true, true, true] 0 ⟨[(4, Pt 5 0), (5, V (.slice none 0 0)), (6, I (gi ([(gi r114.1 0).At] ++ places_155) (IntKind.i64.wrap (r169.1 + 1)))), (7, I r169.2)], [(5, (25, [I 0, I 0, I 0, V (.slice none 0 0)]))]⟩ fun a hS => ?_
       exact H _ _ ⟨_, hS.sl _, hO, hD, hH⟩
     ·replace hS := hS.sl ⟨[(4, Pt 5 0), (5, Sl a151 rest_150 c152), (113, V (.agg #[.int .i64 0, .int .i64 0, .int .i64 0, .slice none 0 0])), (114, Sl a115 r114.1 c116), (119, Sl a156 places_155 c157), (122, I (IntKind.i64.wrap (r169.1 + 1))), (125, I r169.2), (115, V (.pointer (some A172))), (116, V (.pointer (some A174))), (117, I ((gi r114.1 0).At)), (120, Sl a184 ([(gi r114.1 0).At] ++ places_155) c185)], [(5, (25, [I 0, I 0, I 0, V (.slice none 0 0)]))]⟩
      refine oneOp (by rfl) (store1 T hS kr kr (sy' := ⟨[(4, Pt 5 0), (5, Sl a151 rest_150 c152), (113, V (.agg #[.int .i64 0, .int .i64 0, .int .i64 0, .slice none 0 0])), (114, Sl a115 r114.1 c116), (119, Sl a156 places_155 c157), (122, I (IntKind.i64.wrap (r169.1 + 1))), (125, I r169.2), (115, V (.pointer (some A172))), (116, V (.pointer (some A174))), (117, I ((gi r114.1 0).At)), (120, Sl a184 ([(gi r114.1 0).At] ++ places_155) c185)], [(5, (25, [I 0, I 0, I 0, V (.slice none 0 0)])), (5, (25, [I 0, I 0, I 0, V (.slice none 0 0)]))]⟩) kr ?_)
      intro a w228 χ229 hS hE
      replace hO := hO.mv hE rfl rfl
      replace hD := hD.ev hE rfl
      replace h153 := h153.mv hE rfl
      replace h154 := h154.mv hE rfl
      replace h158 := h158.mv hE rfl rfl
      replace h173 := h173.mv hE rfl
      replace h175 := h175.mv hE rfl
      replace h183 := h183.mv hE rfl rfl
      clear hE
      replace hS := hS.sl ⟨[(4, Pt 5 0), (5, Sl a151 rest_150 c152), (113, V (.agg #[.int .i64 0, .int .i64 0, .int .i64 0, .slice none 0 0])), (114, Sl a115 r114.1 c116), (119, Sl a156 places_155 c157), (122, I (IntKind.i64.wrap (r169.1 + 1))), (125, I r169.2), (115, V (.pointer (some A172))), (116, V (.pointer (some A174))), (117, I ((gi r114.1 0).At)), (120, Sl a184 ([(gi r114.1 0).At] ++ places_155) c185)], [(5, (25, [I 0, I 0, I 0, V (.slice none 0 0)]))]⟩
      refine andH (Hold.of hS (bks := []) kr hD) ?_
      intro hH
      refine tk T [14] [] hS hH #[true, true, true, true, true, true, true, true, true, true, false, false, true, true, true, false, false] 4 ⟨[(4, Pt 5 0), (5, V (.slice none 0 0)), (120, Sl a184 ([(gi r114.1 0).At] ++ places_155) c185), (122, I (IntKind.i64.wrap (r169.1 + 1))), (125, I r169.2)], [(5, (25, [I 0, I 0, I 0, V (.slice none 0 0)]))]⟩ fun a hS => ?_
      obtain ⟨χ230, hE, hF⟩ := h183.freeze (by decide)
      replace hS := hS.ev hE (xone_box kr)
      replace hO := hO.mv hE rfl rfl
      replace hD := hD.ev hE rfl
      replace h153 := h153.mv hE rfl
      replace h154 := h154.mv hE rfl
      replace h158 := h158.mv hE rfl rfl
      replace h173 := h173.mv hE rfl
      replace h175 := h175.mv hE rfl
      have h231 := hF; clear hE hF
      have hq := hgq10
      refine only 10 kr (by rfl) (index (e := 3) (k := .i64) T hS kr kr kr kr h231 kr kr hq.1 hq.2 ?_)
      intro A232 a h233 hS
      clear hq
      refine andH (Hold.of hS (bks := []) kr hD) ?_
      intro hH
      refine only 11 kr (by rfl) (load1 T hS kr kr kr h233 rfl kr ?_)
      intro v234 a hv hS
      cases hv
      refine andH (Hold.of hS (bks := []) kr hD) ?_
      intro hH
      refine tk T [15, 16] [] hS hH #[true, true, true, true, true, true, true, true, true, true, true, true, true, true, true, true, true] 0 ⟨[(4, Pt 5 0), (5, V (.slice none 0 0)), (6, I (gi ([(gi r114.1 0).At] ++ places_155) (IntKind.i64.wrap (r169.1 + 1)))), (7, I r169.2)], [(5, (25, [I 0, I 0, I 0, V (.slice none 0 0)]))]⟩ fun a hS => ?_
      exact H _ _ ⟨_, hS.sl _, hO, hD, hH⟩
   ·replace hm := hm.2 hb
    refine wskip ?_
    refine rM T hS ⟨[(4, Pt 5 0), (5, Sl a151 rest_150 c152), (6, I end_), (7, I 0)], [(5, (25, [I x_159, I x_160, I x_161, Sl a163 x_162 c164]))]⟩ fun ρ a w239 χ240 hS hE hr => ?_
    replace hO := hO.mv hE rfl rfl
    replace h153 := h153.mv hE rfl
    replace h165 := h165.mv hE rfl rfl
    clear hE hr
    refine wret ?_
    obtain ⟨χ237, hE, hF⟩ := h165.freeze (by decide)
    replace hS := hS.ev hE (xone_box kr)
    replace hO := hO.mv hE rfl rfl
    replace h153 := h153.mv hE rfl
    have h238 := hF; clear hE hF
    exact fin T hS hO (fun c => c) rfl (r := [.agg #[.int .i64 x_159, .int .i64 x_160, .int .i64 x_161, .slice a163 x_162.length c164], .slice a151 rest_150.length c152, .int .i64 end_, .int .i64 0]) kr (fun χ' hM hC => ⟨((⟨x_159, x_160, x_161, x_162⟩ : Api_Object), rest_150, end_, 0), hm, a163, c164, a151, c152, rfl, h238.m0 hM, h153.m0 hM⟩)
theorem C17 (k32 : S32) (k40 : S40) (k41 : S41) (k42 : S42) (v : ∀ (lines : List (List Token_Token)) (end_ : Int), preTk lines end_ → VC17 lines end_ (fun r => r = objtext_Take lines end_)) : S17 := by
 intro w χ lines end_ a1 c1   hp h1
 refine (W17 k32 k40 k41 k42 w χ lines end_ a1 c1   _ (v lines end_ hp) h1).mono ?_
 rintro _ _ _ _ ⟨r, rfl, h⟩
 exact h
/-- replevin/objtext.words -/
theorem W51 (k28 : S28) (w0 : World) (χ0 : Nat → Nat) (word : List UInt8) (n_ : List Int) (a1 : Option Addr) (c1 : Nat) (Q : (List Token_Token) → Prop) (hm : VC51 word n_ Q) (h1 : RS tI w0 χ0 a1 n_ c1) (hAmb : Amb w0 χ0) :
  Ret Tryd.prog 51 #[.string (bs word), .slice a1 n_.length c1] xnone w0 χ0 (fun w χ' v => ∃ r, Q r ∧ ∃ (ra1 : Option Addr) (rc1 : Nat), v = .slice ra1 r.length rc1 ∧ RS tToken_Token w χ' ra1 r rc1) := by
 unfold VC51 at hm
 replace hm := hm (h1.sm kr)
 refine enter Tryd.func51 rfl (vals := [.string (bs word), .slice a1 n_.length c1]) kr ?_
 intro ρ a hS hO hM
 replace h1 := h1.m0 hM
 replace hAmb := hAmb.m0 hM
 clear hM
 refine rP T hS ⟨[(0, Z word), (1, Sl a1 n_ c1)], []⟩ fun a hS => ?_
 refine regO ?_
 refine oP T hS 2 ⟨[(1, Sl a1 n_ c1), (9, V (.agg #[.int .i64 0, .int .i64 0, .string (bs word)]))], []⟩ fun a hS => ?_
 refine op1 (lit (E := 49) (col := 1005) (T := tToken_Token) (vals := [.agg #[.int .i64 0, .int .i64 0, .string (bs word)]]) (ys := [(⟨0, 0, word⟩ : Token_Token)]) T hS kr kr kr kr (by exact ⟨rfl, trivial⟩) rfl kr kr kr kr ?_)
 intro b101 a w102 χ103 hE h104 hN hS
 clear hN
 replace hO := hO.mv hE rfl rfl
 replace h1 := h1.mv hE rfl
 replace hAmb := hAmb.mv hE rfl
 clear hE
 refine eP T hS ⟨[(1, Sl a1 n_ c1), (5, Sl (some ⟨b101, 0, none⟩) [(⟨0, 0, word⟩ : Token_Token)] 1)], []⟩ fun a hS => ?_
 refine wcut (fun a w => ∃ (ρ : Nat → Nat) (χ : Nat → Nat) (out_105 : List Token_Token) (a106 : Option Addr) (c107 : Nat), VC51_J1 Q out_105 ∧ St Tryd.f51.ntmps ⟨[(5, Sl a106 out_105 c107)], []⟩ ρ a w χ ∧ Old w0 χ0 w χ ∧ OS tToken_Token 49 w χ 1005 a106 out_105 c107 ∧ Amb w χ) ?_ ?_
 ·refine rP T hS ⟨[(5, Sl (some ⟨b101, 0, none⟩) [(⟨0, 0, word⟩ : Token_Token)] 1), (11, Sl a1 n_ c1), (12, I ((n_.length : Nat) : Int)), (13, I 0)], []⟩ fun a hS => ?_
  refine wblock ?_
  obtain ⟨I1, μ1, hm0, hm⟩ := hm
  refine wloop (σ := (List Token_Token) × Int) (fun s a w => ∃ (ρ : Nat → Nat) (χ : Nat → Nat) (a112 : Option Addr) (c113 : Nat), I1 s.1 s.2 ∧ St Tryd.f51.ntmps ⟨[(5, Sl a112 s.1 c113), (11, Sl a1 n_ c1), (12, I ((n_.length : Nat) : Int)), (13, I s.2)], []⟩ ρ a w χ ∧ Old w0 χ0 w χ ∧ OS tToken_Token 49 w χ 1005 a112 s.1 c113 ∧ RS tI w χ a1 n_ c1 ∧ Amb w χ) (fun s => μ1 s.1 s.2) (⟨[(⟨0, 0, word⟩ : Token_Token)], 0⟩) ?_ ?_
  ·exact ⟨ρ, _, (some ⟨b101, 0, none⟩), 1, hm0, hS.sl _, hO, h104, h1, hAmb⟩
  ·rintro ⟨out_111, x_116⟩ a w134 ⟨ρ, χ133, a112, c113, hI, hS, hO, h114, h115, hAmb⟩
   replace hm := hm out_111 x_116 hI
   clear hI hm0
   refine rP T hS ⟨[(5, Sl a112 out_111 c113), (11, Sl a1 n_ c1), (12, I ((n_.length : Nat) : Int)), (13, I x_116), (14, B (decide (x_116 < ((n_.length : Nat) : Int))))], []⟩ fun a hS => ?_
   refine wseq ?_
   refine wcond hS (b := decide (x_116 < ((n_.length : Nat) : Int))) kr (fun hb => ?_) (fun hb => ?_)
   ·replace hm := hm.1 hb
    refine wskip ?_
    refine wseq ?_
    refine wblock ?_
    refine regO ?_
    obtain ⟨hq, hm⟩ := hm
    refine op1 (index (e := 3) (k := .i64) T hS kr kr kr kr h115 kr kr hq.1 hq.2 ?_)
    intro A117 a h118 hS
    clear hq
    refine op1 (load1 T hS kr kr kr h118 rfl kr ?_)
    intro v119 a hv hS
    cases hv
    refine eP T hS ⟨[(5, Sl a112 out_111 c113), (7, I (gi n_ x_116)), (11, Sl a1 n_ c1), (12, I ((n_.length : Nat) : Int)), (13, I x_116)], []⟩ fun a hS => ?_
    refine region ?_
    refine oP T hS 2 ⟨[(5, Sl a112 out_111 c113), (11, Sl a1 n_ c1), (12, I ((n_.length : Nat) : Int)), (13, I x_116), (17, Sl a112 out_111 c113), (18, I (gi n_ x_116))], []⟩ fun a hS => ?_
    obtain ⟨hq, hm⟩ := hm
    refine op1 (call hS kr kr hb28 kr (fun _ _ => rfl) (k28 _ _ (gi n_ x_116) hq hAmb) ?_)
    intro v120 a w121 χ122 hE hp hS
    clear hq
    replace hO := hO.mv hE rfl rfl
    replace h114 := h114.mv hE rfl rfl
    replace h115 := h115.mv hE rfl
    replace hAmb := hAmb.mv hE rfl
    clear hE
    obtain ⟨r123, hr⟩ : ∃ r, token_Digits (gi n_ x_116) = r := ⟨_, rfl⟩
    replace hm := hm r123 hr
    rw [hr] at hp
    clear hr
    subst hp
    refine oP T hS 1 ⟨[(5, Sl a112 out_111 c113), (11, Sl a1 n_ c1), (12, I ((n_.length : Nat) : Int)), (13, I x_116), (17, Sl a112 out_111 c113), (20, V (.agg #[.int .i64 0, .int .i64 0, .string (bs r123)]))], []⟩ fun a hS => ?_
    refine op1 (lit (E := 49) (col := 0) (T := tToken_Token) (vals := [.agg #[.int .i64 0, .int .i64 0, .string (bs r123)]]) (ys := [(⟨0, 0, r123⟩ : Token_Token)]) T hS kr kr kr kr (by exact ⟨rfl, trivial⟩) rfl kr kr kr kr ?_)
    intro b124 a w125 χ126 hE h127 hN hS
    clear hN
    replace hO := hO.mv hE rfl rfl
    replace h114 := h114.mv hE rfl rfl
    replace h115 := h115.mv hE rfl
    replace hAmb := hAmb.mv hE rfl
    clear hE
    replace h127 := h127.rs0
    obtain ⟨hq, hm⟩ := hm
    obtain ⟨news, hN⟩ := h127.src
    refine op1 (append (E := 49) (T := tToken_Token) (col := 1005) (xs := out_111) T hS kr kr kr kr h114 hN kr kr kr kr hq ?_)
    intro a131 c132 a w128 χ129 hE h130 hS
    clear hq hN
    clear h114
    replace hO := hO.mv hE rfl rfl
    replace h115 := h115.mv hE rfl
    replace hAmb := hAmb.mv hE rfl
    replace h127 := h127.mv hE rfl
    clear hE
    refine eP T hS ⟨[(5, Sl a131 (out_111 ++ [(⟨0, 0, r123⟩ : Token_Token)]) c132), (11, Sl a1 n_ c1), (12, I ((n_.length : Nat) : Int)), (13, I x_116)], []⟩ fun a hS => ?_
    refine region (eP T hS ⟨[(5, Sl a131 (out_111 ++ [(⟨0, 0, r123⟩ : Token_Token)]) c132), (11, Sl a1 n_ c1), (12, I ((n_.length : Nat) : Int)), (13, I (IntKind.i64.wrap (x_116 + 1)))], []⟩ fun a hS => ?_)
    exact ⟨⟨out_111 ++ [(⟨0, 0, r123⟩ : Token_Token)], IntKind.i64.wrap (x_116 + 1)⟩, ⟨ρ, _, a131, c132, hm.1, hS.sl _, hO, h130, h115, hAmb⟩, hm.2⟩
   ·replace hm := hm.2 hb
    refine wexit (by rfl) ?_
    exact ⟨ρ, _, out_111, a112, c113, hm, hS.sl _, hO, h114, hAmb⟩
 ·rintro a w136 ⟨ρ, χ135, out_105, a106, c107, hm, hS, hO, h108, hAmb⟩
  unfold VC51_J1 at hm
  refine rP T hS ⟨[(4, Sl a106 out_105 c107)], []⟩ fun a hS => ?_
  refine wret ?_
  obtain ⟨χ109, hE, hF⟩ := h108.freeze (by decide)
  replace hS := hS.ev hE (xone_box kr)
  replace hO := hO.mv hE rfl rfl
  replace hAmb := hAmb.mv hE rfl
  have h110 := hF; clear hE hF
  exact fin T hS hO (fun c => c) rfl (r := [.slice a106 out_105.length c107]) kr (fun χ' hM hC => ⟨out_105, hm, a106, c107, rfl, h110.m0 hM⟩)
theorem C51 (k28 : S28) (v : ∀ (word : List UInt8) (n_ : List Int), preW word n_ → VC51 word n_ (fun r => r = objtext_words word n_)) : S51 := by
 intro w χ word n_ a1 c1   hp h1 hAmb
 refine (W51 k28 w χ word n_ a1 c1   _ (v word n_ hp) h1 hAmb).mono ?_
 rintro _ _ _ _ ⟨r, rfl, h⟩
 exact h
/-- (replevin/objtext.printed).line -/
theorem W50 (k51 : S51) (w0 : World) (χ0 : Nat → Nat) (p_ : Api_Row) (Q : (List Token_Token) → Prop) (hm : VC50 p_ Q) (hAmb : Amb w0 χ0) :
  Ret Tryd.prog 50 #[.agg #[.int .i64 p_.State, .int .i64 p_.Kind, .int .i64 p_.Next, .int .i64 p_.Result]] xnone w0 χ0 (fun w χ' v => ∃ r, Q r ∧ ∃ (ra1 : Option Addr) (rc1 : Nat), v = .slice ra1 r.length rc1 ∧ RS tToken_Token w χ' ra1 r rc1) := by
 unfold VC50 at hm
 refine enter Tryd.func50 rfl (vals := [.agg #[.int .i64 p_.State, .int .i64 p_.Kind, .int .i64 p_.Next, .int .i64 p_.Result]]) kr ?_
 intro ρ a hS hO hM
 replace hAmb := hAmb.m0 hM
 clear hM
 refine rM T hS ⟨[(1, Pt 2 0)], [(2, (111, [I p_.State, I p_.Kind, I p_.Next, I p_.Result]))]⟩ fun ρ a w112 χ113 hS hE hr => ?_
 replace hO := hO.mv hE rfl rfl
 replace hAmb := hAmb.mv hE rfl
 clear hE hr
 refine regO ?_
 refine oP T hS 8 ⟨[(4, I p_.State), (6, I p_.Kind), (8, I p_.Next), (10, I p_.Result)], []⟩ fun a hS => ?_
 refine op1 (lit (E := 3) (col := 0) (T := tI) (vals := [.int .i64 p_.State, .int .i64 p_.Kind, .int .i64 p_.Next, .int .i64 p_.Result]) (ys := [p_.State, p_.Kind, p_.Next, p_.Result]) T hS kr kr kr kr (by exact ⟨rfl, rfl, rfl, rfl, trivial⟩) rfl kr kr kr kr ?_)
 intro b101 a w102 χ103 hE h104 hN hS
 clear hN
 replace hO := hO.mv hE rfl rfl
 replace hAmb := hAmb.mv hE rfl
 clear hE
 replace h104 := h104.rs0
 obtain ⟨hq, hm⟩ := hm
 refine op1 (call hS kr kr hb51 kr (fun _ _ => rfl) (k51 _ _ ([114, 111, 119] : List UInt8) [p_.State, p_.Kind, p_.Next, p_.Result] (some ⟨b101, 0, none⟩) 4 hq h104 hAmb) ?_)
 intro v105 a w106 χ107 hE hp hS
 clear hq
 replace hO := hO.mv hE rfl rfl
 replace hAmb := hAmb.mv hE rfl
 replace h104 := h104.mv hE rfl
 clear hE
 obtain ⟨a109, c110, hp, h111⟩ := hp
 obtain ⟨r108, hr⟩ : ∃ r, objtext_words ([114, 111, 119] : List UInt8) [p_.State, p_.Kind, p_.Next, p_.Result] = r := ⟨_, rfl⟩
 replace hm := hm r108 hr
 rw [hr] at hp h111
 clear hr
 subst hp
 replace hm := hm (h111.sm kr)
 refine eP T hS ⟨[(2, Sl a109 r108 c110)], []⟩ fun a hS => ?_
 refine wret ?_
 exact fin T hS hO (fun c => c) rfl (r := [.slice a109 r108.length c110]) kr (fun χ' hM hC => ⟨r108, hm, a109, c110, rfl, h111.m0 hM⟩)
theorem C50 (k51 : S51) (v : ∀ (p_ : Api_Row), preP p_ → VC50 p_ (fun r => r = objtext_printed_line p_)) : S50 := by
 intro w χ p_    hp hAmb
 refine (W50 k51 w χ p_    _ (v p_ hp) hAmb).mono ?_
 rintro _ _ _ _ ⟨r, rfl, h⟩
 exact h
end Go.Proofs.YtcjldfbgccmpkaaDoor
