/- Walks: each function returns what its condition asks. Condition: the contracts of its callees, handed in. -/
import Derived.Test.YtebhbnlbfglmkaaDoorPWalksS
set_option linter.all false
namespace Go.Proofs.YtebhbnlbfglmkaaDoor
open Go Go.Sv
set_option maxHeartbeats 1000000
/-- replevin/replevinref10.Same -/
theorem W10 (k19 : S19) (w0 : World) (χ0 : Nat → Nat) (a_ : List Api_Step) (b_ : List Api_Step) (a1 : Option Addr) (c1 : Nat) (a2 : Option Addr) (c2 : Nat) (Q : Bool → Prop) (hm : VC10 a_ b_ Q) (h1 : RS tApi_Step w0 χ0 a1 a_ c1) (h2 : RS tApi_Step w0 χ0 a2 b_ c2) :
  Ret Tryd.prog 10 #[.slice a1 a_.length c1, .slice a2 b_.length c2] xnone w0 χ0 (fun w χ' v => ∃ r, Q r ∧ v = .bool r) := by
 unfold VC10 at hm
 replace hm := hm (h1.sm kr)
 replace hm := hm (h2.sm kr)
 refine enter Tryd.func10 rfl (vals := [.slice a1 a_.length c1, .slice a2 b_.length c2]) kr ?_
 intro ρ a hS hO hM
 replace h1 := h1.m0 hM
 replace h2 := h2.m0 hM
 clear hM
 refine rP T hS ⟨[(0, Sl a1 a_ c1), (1, Sl a2 b_ c2)], []⟩ fun a hS => ?_
 refine wseq ?_
 refine rP T hS ⟨[(0, Sl a1 a_ c1), (1, Sl a2 b_ c2), (10, B (((a_.length : Nat) : Int) != ((b_.length : Nat) : Int)))], []⟩ fun a hS => ?_
 refine wcond hS (b := (((a_.length : Nat) : Int) != ((b_.length : Nat) : Int))) kr (fun hb => ?_) (fun hb => ?_)
 ·replace hm := hm.1 hb
  refine rP T hS ⟨[(4, B false)], []⟩ fun a hS => ?_
  refine wret ?_
  exact fin T hS hO (fun c => c) rfl (r := [.bool false]) kr (fun χ' hM hC => ⟨false, hm, rfl⟩)
 ·replace hm := hm.2 hb
  refine wskip ?_
  refine wcut (fun a w => ∃ (ρ : Nat → Nat) (χ : Nat → Nat), VC10_J1 Q ∧ St Tryd.f10.ntmps ⟨[], []⟩ ρ a w χ ∧ Old w0 χ0 w χ) ?_ ?_
  ·refine rP T hS ⟨[(0, Sl a1 a_ c1), (1, Sl a2 b_ c2), (5, I 0)], []⟩ fun a hS => ?_
   refine wblock ?_
   obtain ⟨I1, μ1, hm0, hm⟩ := hm
   refine wloop (σ := Int) (fun s a w => ∃ (ρ : Nat → Nat) (χ : Nat → Nat), I1 s ∧ St Tryd.f10.ntmps ⟨[(0, Sl a1 a_ c1), (1, Sl a2 b_ c2), (5, I s)], []⟩ ρ a w χ ∧ Old w0 χ0 w χ ∧ RS tApi_Step w χ a1 a_ c1 ∧ RS tApi_Step w χ a2 b_ c2) (fun s => μ1 s) (0) ?_ ?_
   ·exact ⟨ρ, _, hm0, hS.sl _, hO, h1, h2⟩
   ·rintro i_103 a w644 ⟨ρ, χ643, hI, hS, hO, h101, h102⟩
    replace hm := hm i_103 hI
    clear hI hm0
    refine wseq ?_
    refine rP T hS ⟨[(0, Sl a1 a_ c1), (1, Sl a2 b_ c2), (5, I i_103), (14, B (decide (i_103 < ((a_.length : Nat) : Int))))], []⟩ fun a hS => ?_
    refine wcond hS (b := decide (i_103 < ((a_.length : Nat) : Int))) kr (fun hb => ?_) (fun hb => ?_)
    ·replace hm := hm.1 hb
     refine wskip ?_
     refine wseq ?_
     refine wblock ?_
     refine wcut (fun a w => ∃ (ρ : Nat → Nat) (χ : Nat → Nat) (x_106 : Bool), VC10_J2 Q I1 μ1 i_103 x_106 ∧ St Tryd.f10.ntmps ⟨[(0, Sl a1 a_ c1), (1, Sl a2 b_ c2), (5, I i_103), (68, B x_106)], []⟩ ρ a w χ ∧ Old w0 χ0 w χ ∧ RS tApi_Step w χ a1 a_ c1 ∧ RS tApi_Step w χ a2 b_ c2) ?_ ?_
     ·refine drawnX [] mixed hS ?_
      intro w107 χ108 hS hE hD hH
      replace hO := hO.mv hE rfl rfl
      replace h101 := h101.mv hE rfl
      replace h102 := h102.mv hE rfl
      clear hE
      refine take T [0, 1, 5, 6] [] [0, 1, 5, 17, 18, 22, 23] hS kr kr kr hH (listed' := #[true, true, false, false, false, true, true, false, false, false, false, false, false, false, false, false, false, false, false, false, false, false, false, false, false, false, false, false, false, false, false, false, false, false, false, false, false, false, false, false, false, false, false, false, false, false, false, false, false, false, false, false]) (fuel := 48) (sy' := ⟨[(0, Sl a1 a_ c1), (1, Sl a2 b_ c2), (5, I i_103), (17, Sl a1 a_ c1), (18, I i_103), (22, Sl a2 b_ c2), (23, I i_103)], []⟩) (by as_aux_lemma => kernel_rfl) (by rfl) ?_
      intro a hS
      obtain ⟨hq, hm⟩ := hm
      refine dindex (e := 52) (k := .i64) T 2 hS kr kr kr (by rfl) kr hH kr kr h101 kr kr hq.1 hq.2 ?_
      intro A109 a h110 hS
      clear hq
      have h110b := h110.here
      refine dfieldA (off := 0) (fsz := 1) (ft := 3) (TF := tI) (y := (gi a_ i_103).Kind) 3 T hS kr kr kr (by rfl) kr hH kr h110 kr kr kr (fun cs h => Api_Step_f0 h) ?_
      intro A111 a h112 hbl hS
      have h112b := h110b
      rw [← hbl] at h112b
      clear hbl
      refine dload1 T 4 hS kr kr kr (by rfl) kr hH kr h112 h112b rfl kr ?_
      intro v113 a hv hS
      cases hv
      obtain ⟨hq, hm⟩ := hm
      refine dindex (e := 52) (k := .i64) T 7 hS kr kr kr (by rfl) kr hH kr kr h102 kr kr hq.1 hq.2 ?_
      intro A114 a h115 hS
      clear hq
      have h115b := h115.here
      refine dfieldA (off := 0) (fsz := 1) (ft := 3) (TF := tI) (y := (gi b_ i_103).Kind) 8 T hS kr kr kr (by rfl) kr hH kr h115 kr kr kr (fun cs h => Api_Step_f0 h) ?_
      intro A116 a h117 hbl hS
      have h117b := h115b
      rw [← hbl] at h117b
      clear hbl
      refine dload1 T 9 hS kr kr kr (by rfl) kr hH kr h117 h117b rfl kr ?_
      intro v118 a hv hS
      cases hv
      refine take T [10, 11] [] [0, 1, 5, 28] hS kr kr kr hH (listed' := #[true, true, true, true, true, true, true, true, true, true, true, true, false, false, false, false, false, false, false, false, false, false, false, false, false, false, false, false, false, false, false, false, false, false, false, false, false, false, false, false, false, false, false, false, false, false, false, false, false, false, false, false]) (fuel := 40) (sy' := ⟨[(0, Sl a1 a_ c1), (1, Sl a2 b_ c2), (5, I i_103), (28, B (((gi a_ i_103).Kind) != ((gi b_ i_103).Kind)))], []⟩) (by as_aux_lemma => kernel_rfl) (by rfl) ?_
      intro a hS
      rcases Bool.eq_false_or_eq_true (((gi a_ i_103).Kind) != ((gi b_ i_103).Kind)) with hb | hb
      ·replace hS := hS.lit (t := 28) kr hb
       replace hm := hm.1 hb
       refine take T [12, 13, 17, 18, 14, 19, 15, 20, 16, 21, 22, 23, 24, 25, 26, 30, 31, 27, 32, 28, 33, 29, 34, 35, 36, 37, 38, 39, 40, 44, 45, 41, 46, 42, 47, 43, 48, 49, 50, 51] [] [0, 1, 5, 29, 30, 31, 32, 33, 34, 35, 36, 37, 38, 39, 42, 43, 44, 45, 46, 47, 48, 49, 50, 51, 52, 53, 56, 57, 58, 59, 60, 61, 62, 63, 64, 65, 66, 67, 68] hS kr kr kr hH (listed' := #[true, true, true, true, true, true, true, true, true, true, true, true, true, true, true, true, true, true, true, true, true, true, true, true, true, true, true, true, true, true, true, true, true, true, true, true, true, true, true, true, true, true, true, true, true, true, true, true, true, true, true, true]) (fuel := 0) (sy' := ⟨[(0, Sl a1 a_ c1), (1, Sl a2 b_ c2), (5, I i_103), (29, V undef), (30, V undef), (31, V undef), (32, V undef), (33, V undef), (34, V undef), (35, V undef), (36, V undef), (37, V undef), (38, V undef), (39, V undef), (42, V undef), (43, V undef), (44, V undef), (45, V undef), (46, V undef), (47, V undef), (48, V undef), (49, V undef), (50, V undef), (51, V undef), (52, V undef), (53, V undef), (56, V undef), (57, V undef), (58, V undef), (59, V undef), (60, V undef), (61, V undef), (62, V undef), (63, V undef), (64, V undef), (65, V undef), (66, V undef), (67, V undef), (68, B true)], []⟩) (by as_aux_lemma => kernel_rfl) (by rfl) ?_
       intro a hS
       refine drawnDone kr ?_
       clear hD hH
       replace hS := hS.sl ⟨[(0, Sl a1 a_ c1), (1, Sl a2 b_ c2), (5, I i_103), (68, B true)], []⟩
       exact ⟨ρ, _, true, hm, hS.sl _, hO, h101, h102⟩
      ·replace hS := hS.lit (t := 28) kr hb
       replace hm := hm.2 hb
       refine take T [12, 13, 17, 18] [] [0, 1, 5, 28, 29, 30, 34, 35] hS kr kr kr hH (listed' := #[true, true, true, true, true, true, true, true, true, true, true, true, true, true, false, false, false, true, true, false, false, false, false, false, false, false, false, false, false, false, false, false, false, false, false, false, false, false, false, false, false, false, false, false, false, false, false, false, false, false, false, false]) (fuel := 36) (sy' := ⟨[(0, Sl a1 a_ c1), (1, Sl a2 b_ c2), (5, I i_103), (28, B false), (29, Sl a1 a_ c1), (30, I i_103), (34, Sl a2 b_ c2), (35, I i_103)], []⟩) (by as_aux_lemma => kernel_rfl) (by rfl) ?_
       intro a hS
       obtain ⟨hq, hm⟩ := hm
       refine dindex (e := 52) (k := .i64) T 14 hS kr kr kr (by rfl) kr hH kr kr h101 kr kr hq.1 hq.2 ?_
       intro A119 a h120 hS
       clear hq
       have h120b := h120.here
       refine dfieldA (off := 1) (fsz := 1) (ft := 3) (TF := tI) (y := (gi a_ i_103).Id) 15 T hS kr kr kr (by rfl) kr hH kr h120 kr kr kr (fun cs h => Api_Step_f1 h) ?_
       intro A121 a h122 hbl hS
       have h122b := h120b
       rw [← hbl] at h122b
       clear hbl
       refine dload1 T 16 hS kr kr kr (by rfl) kr hH kr h122 h122b rfl kr ?_
       intro v123 a hv hS
       cases hv
       obtain ⟨hq, hm⟩ := hm
       refine dindex (e := 52) (k := .i64) T 19 hS kr kr kr (by rfl) kr hH kr kr h102 kr kr hq.1 hq.2 ?_
       intro A124 a h125 hS
       clear hq
       have h125b := h125.here
       refine dfieldA (off := 1) (fsz := 1) (ft := 3) (TF := tI) (y := (gi b_ i_103).Id) 20 T hS kr kr kr (by rfl) kr hH kr h125 kr kr kr (fun cs h => Api_Step_f1 h) ?_
       intro A126 a h127 hbl hS
       have h127b := h125b
       rw [← hbl] at h127b
       clear hbl
       refine dload1 T 21 hS kr kr kr (by rfl) kr hH kr h127 h127b rfl kr ?_
       intro v128 a hv hS
       cases hv
       refine take T [22, 23, 24] [] [0, 1, 5, 29, 30, 31, 32, 33, 34, 35, 36, 37, 38, 39, 41] hS kr kr kr hH (listed' := #[true, true, true, true, true, true, true, true, true, true, true, true, true, true, true, true, true, true, true, true, true, true, true, true, true, false, false, false, false, false, false, false, false, false, false, false, false, false, false, false, false, false, false, false, false, false, false, false, false, false, false, false]) (fuel := 27) (sy' := ⟨[(0, Sl a1 a_ c1), (1, Sl a2 b_ c2), (5, I i_103), (29, Sl a1 a_ c1), (30, I i_103), (31, V (.pointer (some A119))), (32, V (.pointer (some A121))), (33, I ((gi a_ i_103).Id)), (34, Sl a2 b_ c2), (35, I i_103), (36, V (.pointer (some A124))), (37, V (.pointer (some A126))), (38, I ((gi b_ i_103).Id)), (39, B (((gi a_ i_103).Id) != ((gi b_ i_103).Id))), (41, B (((gi a_ i_103).Id) != ((gi b_ i_103).Id)))], []⟩) (by as_aux_lemma => kernel_rfl) (by rfl) ?_
       intro a hS
       rcases Bool.eq_false_or_eq_true (((gi a_ i_103).Id) != ((gi b_ i_103).Id)) with hb | hb
       ·replace hS := hS.lit (t := 41) kr hb
        replace hm := hm.1 hb
        refine take T [25, 26, 30, 31, 27, 32, 28, 33, 29, 34, 35, 36, 37, 38, 39, 40, 44, 45, 41, 46, 42, 47, 43, 48, 49, 50, 51] [] [0, 1, 5, 29, 30, 31, 32, 33, 34, 35, 36, 37, 38, 39, 42, 43, 44, 45, 46, 47, 48, 49, 50, 51, 52, 53, 56, 57, 58, 59, 60, 61, 62, 63, 64, 65, 66, 67, 68] hS kr kr kr hH (listed' := #[true, true, true, true, true, true, true, true, true, true, true, true, true, true, true, true, true, true, true, true, true, true, true, true, true, true, true, true, true, true, true, true, true, true, true, true, true, true, true, true, true, true, true, true, true, true, true, true, true, true, true, true]) (fuel := 0) (sy' := ⟨[(0, Sl a1 a_ c1), (1, Sl a2 b_ c2), (5, I i_103), (29, Sl a1 a_ c1), (30, I i_103), (31, V (.pointer (some A119))), (32, V (.pointer (some A121))), (33, I ((gi a_ i_103).Id)), (34, Sl a2 b_ c2), (35, I i_103), (36, V (.pointer (some A124))), (37, V (.pointer (some A126))), (38, I ((gi b_ i_103).Id)), (39, B (((gi a_ i_103).Id) != ((gi b_ i_103).Id))), (42, V undef), (43, V undef), (44, V undef), (45, V undef), (46, V undef), (47, V undef), (48, V undef), (49, V undef), (50, V undef), (51, V undef), (52, V undef), (53, V undef), (56, V undef), (57, V undef), (58, V undef), (59, V undef), (60, V undef), (61, V undef), (62, V undef), (63, V undef), (64, V undef), (65, V undef), (66, V undef), (67, V undef), (68, B true)], []⟩) (by as_aux_lemma => kernel_rfl) (by rfl) ?_
        intro a hS
        refine drawnDone kr ?_
        clear hD hH
        replace hS := hS.sl ⟨[(0, Sl a1 a_ c1), (1, Sl a2 b_ c2), (5, I i_103), (29, Sl a1 a_ c1), (30, I i_103), (31, V (.pointer (some A119))), (32, V (.pointer (some A121))), (33, I ((gi a_ i_103).Id)), (34, Sl a2 b_ c2), (35, I i_103), (36, V (.pointer (some A124))), (37, V (.pointer (some A126))), (38, I ((gi b_ i_103).Id)), (39, B (((gi a_ i_103).Id) != ((gi b_ i_103).Id))), (68, B true)], []⟩
        exact ⟨ρ, _, true, hm, hS.sl _, hO, h101, h102⟩
       ·replace hS := hS.lit (t := 41) kr hb
        replace hm := hm.2 hb
        refine take T [25, 26, 30, 31] [] [0, 1, 5, 29, 30, 31, 32, 33, 34, 35, 36, 37, 38, 39, 41, 42, 43, 47, 48] hS kr kr kr hH (listed' := #[true, true, true, true, true, true, true, true, true, true, true, true, true, true, true, true, true, true, true, true, true, true, true, true, true, true, true, false, false, false, true, true, false, false, false, false, false, false, false, false, false, false, false, false, false, false, false, false, false, false, false, false]) (fuel := 23) (sy' := ⟨[(0, Sl a1 a_ c1), (1, Sl a2 b_ c2), (5, I i_103), (29, Sl a1 a_ c1), (30, I i_103), (31, V (.pointer (some A119))), (32, V (.pointer (some A121))), (33, I ((gi a_ i_103).Id)), (34, Sl a2 b_ c2), (35, I i_103), (36, V (.pointer (some A124))), (37, V (.pointer (some A126))), (38, I ((gi b_ i_103).Id)), (39, B (((gi a_ i_103).Id) != ((gi b_ i_103).Id))), (41, B false), (42, Sl a1 a_ c1), (43, I i_103), (47, Sl a2 b_ c2), (48, I i_103)], []⟩) (by as_aux_lemma => kernel_rfl) (by rfl) ?_
        intro a hS
        obtain ⟨hq, hm⟩ := hm
        refine dindex (e := 52) (k := .i64) T 27 hS kr kr kr (by rfl) kr hH kr kr h101 kr kr hq.1 hq.2 ?_
        intro A129 a h130 hS
        clear hq
        have h130b := h130.here
        refine dfieldA (off := 2) (fsz := 1) (ft := 31) (TF := (tSlice tI)) (y := (gi a_ i_103).Lits) 28 T hS kr kr kr (by rfl) kr hH kr h130 kr kr kr (fun cs h => Api_Step_f2 h) ?_
        intro A131 a h132 hbl hS
        have h132b := h130b
        rw [← hbl] at h132b
        clear hbl
        refine dload1 T 29 hS kr kr kr (by rfl) kr hH kr h132 h132b rfl kr ?_
        intro v133 a hv hS
        obtain ⟨a134, c135, hv, h136⟩ := hv
        cases hv
        replace hm := hm (h136.sm kr)
        obtain ⟨hq, hm⟩ := hm
        refine dindex (e := 52) (k := .i64) T 32 hS kr kr kr (by rfl) kr hH kr kr h102 kr kr hq.1 hq.2 ?_
        intro A137 a h138 hS
        clear hq
        have h138b := h138.here
        refine dfieldA (off := 2) (fsz := 1) (ft := 31) (TF := (tSlice tI)) (y := (gi b_ i_103).Lits) 33 T hS kr kr kr (by rfl) kr hH kr h138 kr kr kr (fun cs h => Api_Step_f2 h) ?_
        intro A139 a h140 hbl hS
        have h140b := h138b
        rw [← hbl] at h140b
        clear hbl
        refine dload1 T 34 hS kr kr kr (by rfl) kr hH kr h140 h140b rfl kr ?_
        intro v141 a hv hS
        obtain ⟨a142, c143, hv, h144⟩ := hv
        cases hv
        replace hm := hm (h144.sm kr)
        refine only 35 kr (by rfl) (call hS kr kr hb19 kr (fun _ _ => rfl) (k19 _ _ ((gi a_ i_103).Lits) ((gi b_ i_103).Lits) a134 c135 a142 c143 h136 h144) ?_)
        intro v145 a w146 χ147 hE hp hS
        replace hO := hO.mv hE rfl rfl
        replace hD := hD.ev hE rfl
        replace h101 := h101.mv hE rfl
        replace h102 := h102.mv hE rfl
        replace h110 := h110.mv hE rfl
        replace h112 := h112.mv hE rfl
        replace h115 := h115.mv hE rfl
        replace h117 := h117.mv hE rfl
        replace h120 := h120.mv hE rfl
        replace h122 := h122.mv hE rfl
        replace h125 := h125.mv hE rfl
        replace h127 := h127.mv hE rfl
        replace h130 := h130.mv hE rfl
        replace h132 := h132.mv hE rfl
        replace h136 := h136.mv hE rfl
        replace h138 := h138.mv hE rfl
        replace h140 := h140.mv hE rfl
        replace h144 := h144.mv hE rfl
        clear hE
        obtain ⟨r148, hr⟩ : ∃ r, ref01_SameInts ((gi a_ i_103).Lits) ((gi b_ i_103).Lits) = r := ⟨_, rfl⟩
        replace hm := hm r148 hr
        rw [hr] at hp
        clear hr
        subst hp
        refine andH (Hold.of hS (bks := []) kr hD) ?_
        intro hH
        refine take T [36, 37, 38] [] [0, 1, 5, 29, 30, 31, 32, 33, 34, 35, 36, 37, 38, 39, 42, 43, 44, 45, 46, 47, 48, 49, 50, 51, 52, 53, 55] hS kr kr kr hH (listed' := #[true, true, true, true, true, true, true, true, true, true, true, true, true, true, true, true, true, true, true, true, true, true, true, true, true, true, true, true, true, true, true, true, true, true, true, true, true, true, true, false, false, false, false, false, false, false, false, false, false, false, false, false]) (fuel := 13) (sy' := ⟨[(0, Sl a1 a_ c1), (1, Sl a2 b_ c2), (5, I i_103), (29, Sl a1 a_ c1), (30, I i_103), (31, V (.pointer (some A119))), (32, V (.pointer (some A121))), (33, I ((gi a_ i_103).Id)), (34, Sl a2 b_ c2), (35, I i_103), (36, V (.pointer (some A124))), (37, V (.pointer (some A126))), (38, I ((gi b_ i_103).Id)), (39, B (((gi a_ i_103).Id) != ((gi b_ i_103).Id))), (42, Sl a1 a_ c1), (43, I i_103), (44, V (.pointer (some A129))), (45, V (.pointer (some A131))), (46, Sl a134 ((gi a_ i_103).Lits) c135), (47, Sl a2 b_ c2), (48, I i_103), (49, V (.pointer (some A137))), (50, V (.pointer (some A139))), (51, Sl a142 ((gi b_ i_103).Lits) c143), (52, B r148), (53, B (!r148)), (55, B (!r148))], []⟩) (by as_aux_lemma => kernel_rfl) (by rfl) ?_
        intro a hS
        rcases Bool.eq_false_or_eq_true (!r148) with hb | hb
        ·replace hS := hS.lit (t := 55) kr hb
         replace hm := hm.1 hb
         refine take T [39, 40, 44, 45, 41, 46, 42, 47, 43, 48, 49, 50, 51] [] [0, 1, 5, 29, 30, 31, 32, 33, 34, 35, 36, 37, 38, 39, 42, 43, 44, 45, 46, 47, 48, 49, 50, 51, 52, 53, 56, 57, 58, 59, 60, 61, 62, 63, 64, 65, 66, 67, 68] hS kr kr kr hH (listed' := #[true, true, true, true, true, true, true, true, true, true, true, true, true, true, true, true, true, true, true, true, true, true, true, true, true, true, true, true, true, true, true, true, true, true, true, true, true, true, true, true, true, true, true, true, true, true, true, true, true, true, true, true]) (fuel := 0) (sy' := ⟨[(0, Sl a1 a_ c1), (1, Sl a2 b_ c2), (5, I i_103), (29, Sl a1 a_ c1), (30, I i_103), (31, V (.pointer (some A119))), (32, V (.pointer (some A121))), (33, I ((gi a_ i_103).Id)), (34, Sl a2 b_ c2), (35, I i_103), (36, V (.pointer (some A124))), (37, V (.pointer (some A126))), (38, I ((gi b_ i_103).Id)), (39, B (((gi a_ i_103).Id) != ((gi b_ i_103).Id))), (42, Sl a1 a_ c1), (43, I i_103), (44, V (.pointer (some A129))), (45, V (.pointer (some A131))), (46, Sl a134 ((gi a_ i_103).Lits) c135), (47, Sl a2 b_ c2), (48, I i_103), (49, V (.pointer (some A137))), (50, V (.pointer (some A139))), (51, Sl a142 ((gi b_ i_103).Lits) c143), (52, B r148), (53, B (!r148)), (56, V undef), (57, V undef), (58, V undef), (59, V undef), (60, V undef), (61, V undef), (62, V undef), (63, V undef), (64, V undef), (65, V undef), (66, V undef), (67, V undef), (68, B true)], []⟩) (by as_aux_lemma => kernel_rfl) (by rfl) ?_
         intro a hS
         refine drawnDone kr ?_
         clear hD hH
         replace hS := hS.sl ⟨[(0, Sl a1 a_ c1), (1, Sl a2 b_ c2), (5, I i_103), (29, Sl a1 a_ c1), (30, I i_103), (31, V (.pointer (some A119))), (32, V (.pointer (some A121))), (33, I ((gi a_ i_103).Id)), (34, Sl a2 b_ c2), (35, I i_103), (36, V (.pointer (some A124))), (37, V (.pointer (some A126))), (38, I ((gi b_ i_103).Id)), (39, B (((gi a_ i_103).Id) != ((gi b_ i_103).Id))), (42, Sl a1 a_ c1), (43, I i_103), (44, V (.pointer (some A129))), (45, V (.pointer (some A131))), (46, Sl a134 ((gi a_ i_103).Lits) c135), (47, Sl a2 b_ c2), (48, I i_103), (49, V (.pointer (some A137))), (50, V (.pointer (some A139))), (51, Sl a142 ((gi b_ i_103).Lits) c143), (52, B r148), (53, B (!r148)), (68, B true)], []⟩
         exact ⟨ρ, _, true, hm, hS.sl _, hO, h101, h102⟩
        ·replace hS := hS.lit (t := 55) kr hb
         replace hm := hm.2 hb
         refine take T [39, 40, 44, 45] [] [0, 1, 5, 29, 30, 31, 32, 33, 34, 35, 36, 37, 38, 39, 42, 43, 44, 45, 46, 47, 48, 49, 50, 51, 52, 53, 55, 56, 57, 61, 62] hS kr kr kr hH (listed' := #[true, true, true, true, true, true, true, true, true, true, true, true, true, true, true, true, true, true, true, true, true, true, true, true, true, true, true, true, true, true, true, true, true, true, true, true, true, true, true, true, true, false, false, false, true, true, false, false, false, false, false, false]) (fuel := 9) (sy' := ⟨[(0, Sl a1 a_ c1), (1, Sl a2 b_ c2), (5, I i_103), (29, Sl a1 a_ c1), (30, I i_103), (31, V (.pointer (some A119))), (32, V (.pointer (some A121))), (33, I ((gi a_ i_103).Id)), (34, Sl a2 b_ c2), (35, I i_103), (36, V (.pointer (some A124))), (37, V (.pointer (some A126))), (38, I ((gi b_ i_103).Id)), (39, B (((gi a_ i_103).Id) != ((gi b_ i_103).Id))), (42, Sl a1 a_ c1), (43, I i_103), (44, V (.pointer (some A129))), (45, V (.pointer (some A131))), (46, Sl a134 ((gi a_ i_103).Lits) c135), (47, Sl a2 b_ c2), (48, I i_103), (49, V (.pointer (some A137))), (50, V (.pointer (some A139))), (51, Sl a142 ((gi b_ i_103).Lits) c143), (52, B r148), (53, B (!r148)), (55, B false), (56, Sl a1 a_ c1), (57, I i_103), (61, Sl a2 b_ c2), (62, I i_103)], []⟩) (by as_aux_lemma => kernel_rfl) (by rfl) ?_
         intro a hS
         obtain ⟨hgq41, hm⟩ := hm
         obtain ⟨hgq46, hm⟩ := hm
         refine drcut (fun a w => ∃ (χ : Nat → Nat) (A406 : Addr) (A408 : Addr) (a410 : Option Addr) (c411 : Nat) (A413 : Addr) (A415 : Addr) (a417 : Option Addr) (c418 : Nat), St Tryd.f10.ntmps ⟨[(0, Sl a1 a_ c1), (1, Sl a2 b_ c2), (5, I i_103), (29, Sl a1 a_ c1), (30, I i_103), (31, V (.pointer (some A119))), (32, V (.pointer (some A121))), (33, I ((gi a_ i_103).Id)), (34, Sl a2 b_ c2), (35, I i_103), (36, V (.pointer (some A124))), (37, V (.pointer (some A126))), (38, I ((gi b_ i_103).Id)), (39, B (((gi a_ i_103).Id) != ((gi b_ i_103).Id))), (42, Sl a1 a_ c1), (43, I i_103), (44, V (.pointer (some A129))), (45, V (.pointer (some A131))), (46, Sl a134 ((gi a_ i_103).Lits) c135), (47, Sl a2 b_ c2), (48, I i_103), (49, V (.pointer (some A137))), (50, V (.pointer (some A139))), (51, Sl a142 ((gi b_ i_103).Lits) c143), (52, B r148), (53, B (!r148)), (55, B false), (56, Sl a1 a_ c1), (57, I i_103), (58, V (.pointer (some A406))), (59, V (.pointer (some A408))), (60, Sl a410 ((gi a_ i_103).Hints) c411), (61, Sl a2 b_ c2), (62, I i_103), (63, V (.pointer (some A413))), (64, V (.pointer (some A415))), (65, Sl a417 ((gi b_ i_103).Hints) c418)], []⟩ ρ a w χ ∧ Old w0 χ0 w χ ∧ M0 w107 χ108 w χ ∧ Hold w107 χ108 (filt [] ⟨[(0, Sl a1 a_ c1), (1, Sl a2 b_ c2), (5, I i_103)], []⟩) ρ w ∧ RS tApi_Step w χ a1 a_ c1 ∧ RS tApi_Step w χ a2 b_ c2 ∧ At tApi_Step w χ A119 (gi a_ i_103) ∧ At tI w χ A121 ((gi a_ i_103).Id) ∧ At tApi_Step w χ A124 (gi b_ i_103) ∧ At tI w χ A126 ((gi b_ i_103).Id) ∧ At tApi_Step w χ A129 (gi a_ i_103) ∧ At (tSlice tI) w χ A131 ((gi a_ i_103).Lits) ∧ RS tI w χ a134 ((gi a_ i_103).Lits) c135 ∧ At tApi_Step w χ A137 (gi b_ i_103) ∧ At (tSlice tI) w χ A139 ((gi b_ i_103).Lits) ∧ RS tI w χ a142 ((gi b_ i_103).Lits) c143 ∧ At tApi_Step w χ A406 (gi a_ i_103) ∧ At (tSlice tI) w χ A408 ((gi a_ i_103).Hints) ∧ RS tI w χ a410 ((gi a_ i_103).Hints) c411 ∧ At tApi_Step w χ A413 (gi b_ i_103) ∧ At (tSlice tI) w χ A415 ((gi b_ i_103).Hints) ∧ RS tI w χ a417 ((gi b_ i_103).Hints) c418) #[true, true, true, true, true, true, true, true, true, true, true, true, true, true, true, true, true, true, true, true, true, true, true, true, true, true, true, true, true, true, true, true, true, true, true, true, true, true, true, true, true, true, true, true, true, true, true, true, true, false, false, false] 3 ?_ (fun H => ?_)
         ·rintro a w636 ⟨χ635, A406, A408, a410, c411, A413, A415, a417, c418, hS, hO, hD, hH, h393, h394, h395, h396, h397, h398, h399, h400, h401, h402, h403, h404, h405, h407, h409, h412, h414, h416⟩
          have h395b := h395.here
          have h396b := h396.here
          have h397b := h397.here
          have h398b := h398.here
          have h399b := h399.here
          have h400b := h400.here
          have h402b := h402.here
          have h403b := h403.here
          have h405b := h405.here
          have h407b := h407.here
          have h412b := h412.here
          have h414b := h414.here
          replace hm := hm (h409.sm kr)
          replace hm := hm (h416.sm kr)
          clear hgq41 hgq46
          refine only 49 kr (by rfl) (call hS kr kr hb19 kr (fun _ _ => rfl) (k19 _ _ ((gi a_ i_103).Hints) ((gi b_ i_103).Hints) a410 c411 a417 c418 h409 h416) ?_)
          intro v637 a w638 χ639 hE hp hS
          replace hO := hO.mv hE rfl rfl
          replace hD := hD.ev hE rfl
          replace h393 := h393.mv hE rfl
          replace h394 := h394.mv hE rfl
          replace h395 := h395.mv hE rfl
          replace h396 := h396.mv hE rfl
          replace h397 := h397.mv hE rfl
          replace h398 := h398.mv hE rfl
          replace h399 := h399.mv hE rfl
          replace h400 := h400.mv hE rfl
          replace h401 := h401.mv hE rfl
          replace h402 := h402.mv hE rfl
          replace h403 := h403.mv hE rfl
          replace h404 := h404.mv hE rfl
          replace h405 := h405.mv hE rfl
          replace h407 := h407.mv hE rfl
          replace h409 := h409.mv hE rfl
          replace h412 := h412.mv hE rfl
          replace h414 := h414.mv hE rfl
          replace h416 := h416.mv hE rfl
          clear hE
          obtain ⟨r640, hr⟩ : ∃ r, ref01_SameInts ((gi a_ i_103).Hints) ((gi b_ i_103).Hints) = r := ⟨_, rfl⟩
          replace hm := hm r640 hr
          rw [hr] at hp
          clear hr
          subst hp
          refine andH (Hold.of hS (bks := []) kr hD) ?_
          intro hH
          refine take T [50, 51] [] [0, 1, 5, 29, 30, 31, 32, 33, 34, 35, 36, 37, 38, 39, 42, 43, 44, 45, 46, 47, 48, 49, 50, 51, 52, 53, 56, 57, 58, 59, 60, 61, 62, 63, 64, 65, 66, 67, 68] hS kr kr kr hH (listed' := #[true, true, true, true, true, true, true, true, true, true, true, true, true, true, true, true, true, true, true, true, true, true, true, true, true, true, true, true, true, true, true, true, true, true, true, true, true, true, true, true, true, true, true, true, true, true, true, true, true, true, true, true]) (fuel := 0) (sy' := ⟨[(0, Sl a1 a_ c1), (1, Sl a2 b_ c2), (5, I i_103), (29, Sl a1 a_ c1), (30, I i_103), (31, V (.pointer (some A119))), (32, V (.pointer (some A121))), (33, I ((gi a_ i_103).Id)), (34, Sl a2 b_ c2), (35, I i_103), (36, V (.pointer (some A124))), (37, V (.pointer (some A126))), (38, I ((gi b_ i_103).Id)), (39, B (((gi a_ i_103).Id) != ((gi b_ i_103).Id))), (42, Sl a1 a_ c1), (43, I i_103), (44, V (.pointer (some A129))), (45, V (.pointer (some A131))), (46, Sl a134 ((gi a_ i_103).Lits) c135), (47, Sl a2 b_ c2), (48, I i_103), (49, V (.pointer (some A137))), (50, V (.pointer (some A139))), (51, Sl a142 ((gi b_ i_103).Lits) c143), (52, B r148), (53, B (!r148)), (56, Sl a1 a_ c1), (57, I i_103), (58, V (.pointer (some A406))), (59, V (.pointer (some A408))), (60, Sl a410 ((gi a_ i_103).Hints) c411), (61, Sl a2 b_ c2), (62, I i_103), (63, V (.pointer (some A413))), (64, V (.pointer (some A415))), (65, Sl a417 ((gi b_ i_103).Hints) c418), (66, B r640), (67, B (!r640)), (68, B (!r640))], []⟩) (by as_aux_lemma => kernel_rfl) (by rfl) ?_
          intro a hS
          refine drawnDone kr ?_
          clear hD hH
          replace hS := hS.sl ⟨[(0, Sl a1 a_ c1), (1, Sl a2 b_ c2), (5, I i_103), (29, Sl a1 a_ c1), (30, I i_103), (31, V (.pointer (some A119))), (32, V (.pointer (some A121))), (33, I ((gi a_ i_103).Id)), (34, Sl a2 b_ c2), (35, I i_103), (36, V (.pointer (some A124))), (37, V (.pointer (some A126))), (38, I ((gi b_ i_103).Id)), (39, B (((gi a_ i_103).Id) != ((gi b_ i_103).Id))), (42, Sl a1 a_ c1), (43, I i_103), (44, V (.pointer (some A129))), (45, V (.pointer (some A131))), (46, Sl a134 ((gi a_ i_103).Lits) c135), (47, Sl a2 b_ c2), (48, I i_103), (49, V (.pointer (some A137))), (50, V (.pointer (some A139))), (51, Sl a142 ((gi b_ i_103).Lits) c143), (52, B r148), (53, B (!r148)), (56, Sl a1 a_ c1), (57, I i_103), (58, V (.pointer (some A406))), (59, V (.pointer (some A408))), (60, Sl a410 ((gi a_ i_103).Hints) c411), (61, Sl a2 b_ c2), (62, I i_103), (63, V (.pointer (some A413))), (64, V (.pointer (some A415))), (65, Sl a417 ((gi b_ i_103).Hints) c418), (66, B r640), (67, B (!r640)), (68, B (!r640))], []⟩
          exact ⟨ρ, _, (!r640), hm, hS.sl _, hO, h393, h394⟩
         ·clear hm
          refine anyOf (is := [41, 46]) kr (by decide) ?_
          intro i hi
          rcases mem2 hi with rfl | rfl
          ·have hq := hgq41
           refine oneOp (by rfl) (index (e := 52) (k := .i64) T hS kr kr kr kr h101 kr kr hq.1 hq.2 ?_)
           intro A419 a h420 hS
           clear hq
           refine andH (Hold.of hS (bks := []) kr hD) ?_
           intro hH
           refine anyOf (is := [42, 46]) kr (by decide) ?_
           intro i hi
           rcases mem2 hi with rfl | rfl
           ·refine oneOp (by rfl) (fieldA (off := 3) (fsz := 1) (ft := 31) (TF := (tSlice tI)) (y := (gi a_ i_103).Hints) T hS kr kr kr h420 kr kr kr (fun cs h => Api_Step_f3 h) ?_)
            intro A421 a h422 hS
            refine andH (Hold.of hS (bks := []) kr hD) ?_
            intro hH
            refine anyOf (is := [43, 46]) kr (by decide) ?_
            intro i hi
            rcases mem2 hi with rfl | rfl
            ·refine oneOp (by rfl) (load1 T hS kr kr kr h422 rfl kr ?_)
             intro v423 a hv hS
             obtain ⟨a424, c425, hv, h426⟩ := hv
             cases hv
             refine andH (Hold.of hS (bks := []) kr hD) ?_
             intro hH
             have hq := hgq46
             refine only 46 kr (by rfl) (index (e := 52) (k := .i64) T hS kr kr kr kr h102 kr kr hq.1 hq.2 ?_)
             intro A427 a h428 hS
             clear hq
             refine andH (Hold.of hS (bks := []) kr hD) ?_
             intro hH
             refine only 47 kr (by rfl) (fieldA (off := 3) (fsz := 1) (ft := 31) (TF := (tSlice tI)) (y := (gi b_ i_103).Hints) T hS kr kr kr h428 kr kr kr (fun cs h => Api_Step_f3 h) ?_)
             intro A429 a h430 hS
             refine andH (Hold.of hS (bks := []) kr hD) ?_
             intro hH
             refine only 48 kr (by rfl) (load1 T hS kr kr kr h430 rfl kr ?_)
             intro v431 a hv hS
             obtain ⟨a432, c433, hv, h434⟩ := hv
             cases hv
             refine andH (Hold.of hS (bks := []) kr hD) ?_
             intro hH
             exact H _ _ ⟨_, A419, A421, a424, c425, A427, A429, a432, c433, hS.sl _, hO, hD, hH, h101, h102, h120, h122, h125, h127, h130, h132, h136, h138, h140, h144, h420, h422, h426, h428, h430, h434⟩
            ·have hq := hgq46
             refine oneOp (by rfl) (index (e := 52) (k := .i64) T hS kr kr kr kr h102 kr kr hq.1 hq.2 ?_)
             intro A435 a h436 hS
             clear hq
             refine andH (Hold.of hS (bks := []) kr hD) ?_
             intro hH
             refine anyOf (is := [43, 47]) kr (by decide) ?_
             intro i hi
             rcases mem2 hi with rfl | rfl
             ·refine oneOp (by rfl) (load1 T hS kr kr kr h422 rfl kr ?_)
              intro v437 a hv hS
              obtain ⟨a438, c439, hv, h440⟩ := hv
              cases hv
              refine andH (Hold.of hS (bks := []) kr hD) ?_
              intro hH
              refine only 47 kr (by rfl) (fieldA (off := 3) (fsz := 1) (ft := 31) (TF := (tSlice tI)) (y := (gi b_ i_103).Hints) T hS kr kr kr h436 kr kr kr (fun cs h => Api_Step_f3 h) ?_)
              intro A441 a h442 hS
              refine andH (Hold.of hS (bks := []) kr hD) ?_
              intro hH
              refine only 48 kr (by rfl) (load1 T hS kr kr kr h442 rfl kr ?_)
              intro v443 a hv hS
              obtain ⟨a444, c445, hv, h446⟩ := hv
              cases hv
              refine andH (Hold.of hS (bks := []) kr hD) ?_
              intro hH
              exact H _ _ ⟨_, A419, A421, a438, c439, A435, A441, a444, c445, hS.sl _, hO, hD, hH, h101, h102, h120, h122, h125, h127, h130, h132, h136, h138, h140, h144, h420, h422, h440, h436, h442, h446⟩
             ·refine oneOp (by rfl) (fieldA (off := 3) (fsz := 1) (ft := 31) (TF := (tSlice tI)) (y := (gi b_ i_103).Hints) T hS kr kr kr h436 kr kr kr (fun cs h => Api_Step_f3 h) ?_)
              intro A447 a h448 hS
              refine andH (Hold.of hS (bks := []) kr hD) ?_
              intro hH
              refine anyOf (is := [43, 48]) kr (by decide) ?_
              intro i hi
              rcases mem2 hi with rfl | rfl
              ·refine oneOp (by rfl) (load1 T hS kr kr kr h422 rfl kr ?_)
               intro v449 a hv hS
               obtain ⟨a450, c451, hv, h452⟩ := hv
               cases hv
               refine andH (Hold.of hS (bks := []) kr hD) ?_
               intro hH
               refine only 48 kr (by rfl) (load1 T hS kr kr kr h448 rfl kr ?_)
               intro v453 a hv hS
               obtain ⟨a454, c455, hv, h456⟩ := hv
               cases hv
               refine andH (Hold.of hS (bks := []) kr hD) ?_
               intro hH
               exact H _ _ ⟨_, A419, A421, a450, c451, A435, A447, a454, c455, hS.sl _, hO, hD, hH, h101, h102, h120, h122, h125, h127, h130, h132, h136, h138, h140, h144, h420, h422, h452, h436, h448, h456⟩
              ·refine oneOp (by rfl) (load1 T hS kr kr kr h448 rfl kr ?_)
               intro v457 a hv hS
               obtain ⟨a458, c459, hv, h460⟩ := hv
               cases hv
               refine andH (Hold.of hS (bks := []) kr hD) ?_
               intro hH
               refine only 43 kr (by rfl) (load1 T hS kr kr kr h422 rfl kr ?_)
               intro v461 a hv hS
               obtain ⟨a462, c463, hv, h464⟩ := hv
               cases hv
               refine andH (Hold.of hS (bks := []) kr hD) ?_
               intro hH
               exact H _ _ ⟨_, A419, A421, a462, c463, A435, A447, a458, c459, hS.sl _, hO, hD, hH, h101, h102, h120, h122, h125, h127, h130, h132, h136, h138, h140, h144, h420, h422, h464, h436, h448, h460⟩
           ·have hq := hgq46
            refine oneOp (by rfl) (index (e := 52) (k := .i64) T hS kr kr kr kr h102 kr kr hq.1 hq.2 ?_)
            intro A465 a h466 hS
            clear hq
            refine andH (Hold.of hS (bks := []) kr hD) ?_
            intro hH
            refine anyOf (is := [42, 47]) kr (by decide) ?_
            intro i hi
            rcases mem2 hi with rfl | rfl
            ·refine oneOp (by rfl) (fieldA (off := 3) (fsz := 1) (ft := 31) (TF := (tSlice tI)) (y := (gi a_ i_103).Hints) T hS kr kr kr h420 kr kr kr (fun cs h => Api_Step_f3 h) ?_)
             intro A467 a h468 hS
             refine andH (Hold.of hS (bks := []) kr hD) ?_
             intro hH
             refine anyOf (is := [43, 47]) kr (by decide) ?_
             intro i hi
             rcases mem2 hi with rfl | rfl
             ·refine oneOp (by rfl) (load1 T hS kr kr kr h468 rfl kr ?_)
              intro v469 a hv hS
              obtain ⟨a470, c471, hv, h472⟩ := hv
              cases hv
              refine andH (Hold.of hS (bks := []) kr hD) ?_
              intro hH
              refine only 47 kr (by rfl) (fieldA (off := 3) (fsz := 1) (ft := 31) (TF := (tSlice tI)) (y := (gi b_ i_103).Hints) T hS kr kr kr h466 kr kr kr (fun cs h => Api_Step_f3 h) ?_)
              intro A473 a h474 hS
              refine andH (Hold.of hS (bks := []) kr hD) ?_
              intro hH
              refine only 48 kr (by rfl) (load1 T hS kr kr kr h474 rfl kr ?_)
              intro v475 a hv hS
              obtain ⟨a476, c477, hv, h478⟩ := hv
              cases hv
              refine andH (Hold.of hS (bks := []) kr hD) ?_
              intro hH
              exact H _ _ ⟨_, A419, A467, a470, c471, A465, A473, a476, c477, hS.sl _, hO, hD, hH, h101, h102, h120, h122, h125, h127, h130, h132, h136, h138, h140, h144, h420, h468, h472, h466, h474, h478⟩
             ·refine oneOp (by rfl) (fieldA (off := 3) (fsz := 1) (ft := 31) (TF := (tSlice tI)) (y := (gi b_ i_103).Hints) T hS kr kr kr h466 kr kr kr (fun cs h => Api_Step_f3 h) ?_)
              intro A479 a h480 hS
              refine andH (Hold.of hS (bks := []) kr hD) ?_
              intro hH
              refine anyOf (is := [43, 48]) kr (by decide) ?_
              intro i hi
              rcases mem2 hi with rfl | rfl
              ·refine oneOp (by rfl) (load1 T hS kr kr kr h468 rfl kr ?_)
               intro v481 a hv hS
               obtain ⟨a482, c483, hv, h484⟩ := hv
               cases hv
               refine andH (Hold.of hS (bks := []) kr hD) ?_
               intro hH
               refine only 48 kr (by rfl) (load1 T hS kr kr kr h480 rfl kr ?_)
               intro v485 a hv hS
               obtain ⟨a486, c487, hv, h488⟩ := hv
               cases hv
               refine andH (Hold.of hS (bks := []) kr hD) ?_
               intro hH
               exact H _ _ ⟨_, A419, A467, a482, c483, A465, A479, a486, c487, hS.sl _, hO, hD, hH, h101, h102, h120, h122, h125, h127, h130, h132, h136, h138, h140, h144, h420, h468, h484, h466, h480, h488⟩
              ·refine oneOp (by rfl) (load1 T hS kr kr kr h480 rfl kr ?_)
               intro v489 a hv hS
               obtain ⟨a490, c491, hv, h492⟩ := hv
               cases hv
               refine andH (Hold.of hS (bks := []) kr hD) ?_
               intro hH
               refine only 43 kr (by rfl) (load1 T hS kr kr kr h468 rfl kr ?_)
               intro v493 a hv hS
               obtain ⟨a494, c495, hv, h496⟩ := hv
               cases hv
               refine andH (Hold.of hS (bks := []) kr hD) ?_
               intro hH
               exact H _ _ ⟨_, A419, A467, a494, c495, A465, A479, a490, c491, hS.sl _, hO, hD, hH, h101, h102, h120, h122, h125, h127, h130, h132, h136, h138, h140, h144, h420, h468, h496, h466, h480, h492⟩
            ·refine oneOp (by rfl) (fieldA (off := 3) (fsz := 1) (ft := 31) (TF := (tSlice tI)) (y := (gi b_ i_103).Hints) T hS kr kr kr h466 kr kr kr (fun cs h => Api_Step_f3 h) ?_)
             intro A497 a h498 hS
             refine andH (Hold.of hS (bks := []) kr hD) ?_
             intro hH
             refine anyOf (is := [42, 48]) kr (by decide) ?_
             intro i hi
             rcases mem2 hi with rfl | rfl
             ·refine oneOp (by rfl) (fieldA (off := 3) (fsz := 1) (ft := 31) (TF := (tSlice tI)) (y := (gi a_ i_103).Hints) T hS kr kr kr h420 kr kr kr (fun cs h => Api_Step_f3 h) ?_)
              intro A499 a h500 hS
              refine andH (Hold.of hS (bks := []) kr hD) ?_
              intro hH
              refine anyOf (is := [43, 48]) kr (by decide) ?_
              intro i hi
              rcases mem2 hi with rfl | rfl
              ·refine oneOp (by rfl) (load1 T hS kr kr kr h500 rfl kr ?_)
               intro v501 a hv hS
               obtain ⟨a502, c503, hv, h504⟩ := hv
               cases hv
               refine andH (Hold.of hS (bks := []) kr hD) ?_
               intro hH
               refine only 48 kr (by rfl) (load1 T hS kr kr kr h498 rfl kr ?_)
               intro v505 a hv hS
               obtain ⟨a506, c507, hv, h508⟩ := hv
               cases hv
               refine andH (Hold.of hS (bks := []) kr hD) ?_
               intro hH
               exact H _ _ ⟨_, A419, A499, a502, c503, A465, A497, a506, c507, hS.sl _, hO, hD, hH, h101, h102, h120, h122, h125, h127, h130, h132, h136, h138, h140, h144, h420, h500, h504, h466, h498, h508⟩
              ·refine oneOp (by rfl) (load1 T hS kr kr kr h498 rfl kr ?_)
               intro v509 a hv hS
               obtain ⟨a510, c511, hv, h512⟩ := hv
               cases hv
               refine andH (Hold.of hS (bks := []) kr hD) ?_
               intro hH
               refine only 43 kr (by rfl) (load1 T hS kr kr kr h500 rfl kr ?_)
               intro v513 a hv hS
               obtain ⟨a514, c515, hv, h516⟩ := hv
               cases hv
               refine andH (Hold.of hS (bks := []) kr hD) ?_
               intro hH
               exact H _ _ ⟨_, A419, A499, a514, c515, A465, A497, a510, c511, hS.sl _, hO, hD, hH, h101, h102, h120, h122, h125, h127, h130, h132, h136, h138, h140, h144, h420, h500, h516, h466, h498, h512⟩
             ·refine oneOp (by rfl) (load1 T hS kr kr kr h498 rfl kr ?_)
              intro v517 a hv hS
              obtain ⟨a518, c519, hv, h520⟩ := hv
              cases hv
              refine andH (Hold.of hS (bks := []) kr hD) ?_
              intro hH
              refine only 42 kr (by rfl) (fieldA (off := 3) (fsz := 1) (ft := 31) (TF := (tSlice tI)) (y := (gi a_ i_103).Hints) T hS kr kr kr h420 kr kr kr (fun cs h => Api_Step_f3 h) ?_)
              intro A521 a h522 hS
              refine andH (Hold.of hS (bks := []) kr hD) ?_
              intro hH
              refine only 43 kr (by rfl) (load1 T hS kr kr kr h522 rfl kr ?_)
              intro v523 a hv hS
              obtain ⟨a524, c525, hv, h526⟩ := hv
              cases hv
              refine andH (Hold.of hS (bks := []) kr hD) ?_
              intro hH
              exact H _ _ ⟨_, A419, A521, a524, c525, A465, A497, a518, c519, hS.sl _, hO, hD, hH, h101, h102, h120, h122, h125, h127, h130, h132, h136, h138, h140, h144, h420, h522, h526, h466, h498, h520⟩
          ·have hq := hgq46
           refine oneOp (by rfl) (index (e := 52) (k := .i64) T hS kr kr kr kr h102 kr kr hq.1 hq.2 ?_)
           intro A527 a h528 hS
           clear hq
           refine andH (Hold.of hS (bks := []) kr hD) ?_
           intro hH
           refine anyOf (is := [41, 47]) kr (by decide) ?_
           intro i hi
           rcases mem2 hi with rfl | rfl
           ·have hq := hgq41
            refine oneOp (by rfl) (index (e := 52) (k := .i64) T hS kr kr kr kr h101 kr kr hq.1 hq.2 ?_)
            intro A529 a h530 hS
            clear hq
            refine andH (Hold.of hS (bks := []) kr hD) ?_
            intro hH
            refine anyOf (is := [42, 47]) kr (by decide) ?_
            intro i hi
            rcases mem2 hi with rfl | rfl
            ·refine oneOp (by rfl) (fieldA (off := 3) (fsz := 1) (ft := 31) (TF := (tSlice tI)) (y := (gi a_ i_103).Hints) T hS kr kr kr h530 kr kr kr (fun cs h => Api_Step_f3 h) ?_)
             intro A531 a h532 hS
             refine andH (Hold.of hS (bks := []) kr hD) ?_
             intro hH
             refine anyOf (is := [43, 47]) kr (by decide) ?_
             intro i hi
             rcases mem2 hi with rfl | rfl
             ·refine oneOp (by rfl) (load1 T hS kr kr kr h532 rfl kr ?_)
              intro v533 a hv hS
              obtain ⟨a534, c535, hv, h536⟩ := hv
              cases hv
              refine andH (Hold.of hS (bks := []) kr hD) ?_
              intro hH
              refine only 47 kr (by rfl) (fieldA (off := 3) (fsz := 1) (ft := 31) (TF := (tSlice tI)) (y := (gi b_ i_103).Hints) T hS kr kr kr h528 kr kr kr (fun cs h => Api_Step_f3 h) ?_)
              intro A537 a h538 hS
              refine andH (Hold.of hS (bks := []) kr hD) ?_
              intro hH
              refine only 48 kr (by rfl) (load1 T hS kr kr kr h538 rfl kr ?_)
              intro v539 a hv hS
              obtain ⟨a540, c541, hv, h542⟩ := hv
              cases hv
              refine andH (Hold.of hS (bks := []) kr hD) ?_
              intro hH
              exact H _ _ ⟨_, A529, A531, a534, c535, A527, A537, a540, c541, hS.sl _, hO, hD, hH, h101, h102, h120, h122, h125, h127, h130, h132, h136, h138, h140, h144, h530, h532, h536, h528, h538, h542⟩
             ·refine oneOp (by rfl) (fieldA (off := 3) (fsz := 1) (ft := 31) (TF := (tSlice tI)) (y := (gi b_ i_103).Hints) T hS kr kr kr h528 kr kr kr (fun cs h => Api_Step_f3 h) ?_)
              intro A543 a h544 hS
              refine andH (Hold.of hS (bks := []) kr hD) ?_
              intro hH
              refine anyOf (is := [43, 48]) kr (by decide) ?_
              intro i hi
              rcases mem2 hi with rfl | rfl
              ·refine oneOp (by rfl) (load1 T hS kr kr kr h532 rfl kr ?_)
               intro v545 a hv hS
               obtain ⟨a546, c547, hv, h548⟩ := hv
               cases hv
               refine andH (Hold.of hS (bks := []) kr hD) ?_
               intro hH
               refine only 48 kr (by rfl) (load1 T hS kr kr kr h544 rfl kr ?_)
               intro v549 a hv hS
               obtain ⟨a550, c551, hv, h552⟩ := hv
               cases hv
               refine andH (Hold.of hS (bks := []) kr hD) ?_
               intro hH
               exact H _ _ ⟨_, A529, A531, a546, c547, A527, A543, a550, c551, hS.sl _, hO, hD, hH, h101, h102, h120, h122, h125, h127, h130, h132, h136, h138, h140, h144, h530, h532, h548, h528, h544, h552⟩
              ·refine oneOp (by rfl) (load1 T hS kr kr kr h544 rfl kr ?_)
               intro v553 a hv hS
               obtain ⟨a554, c555, hv, h556⟩ := hv
               cases hv
               refine andH (Hold.of hS (bks := []) kr hD) ?_
               intro hH
               refine only 43 kr (by rfl) (load1 T hS kr kr kr h532 rfl kr ?_)
               intro v557 a hv hS
               obtain ⟨a558, c559, hv, h560⟩ := hv
               cases hv
               refine andH (Hold.of hS (bks := []) kr hD) ?_
               intro hH
               exact H _ _ ⟨_, A529, A531, a558, c559, A527, A543, a554, c555, hS.sl _, hO, hD, hH, h101, h102, h120, h122, h125, h127, h130, h132, h136, h138, h140, h144, h530, h532, h560, h528, h544, h556⟩
            ·refine oneOp (by rfl) (fieldA (off := 3) (fsz := 1) (ft := 31) (TF := (tSlice tI)) (y := (gi b_ i_103).Hints) T hS kr kr kr h528 kr kr kr (fun cs h => Api_Step_f3 h) ?_)
             intro A561 a h562 hS
             refine andH (Hold.of hS (bks := []) kr hD) ?_
             intro hH
             refine anyOf (is := [42, 48]) kr (by decide) ?_
             intro i hi
             rcases mem2 hi with rfl | rfl
             ·refine oneOp (by rfl) (fieldA (off := 3) (fsz := 1) (ft := 31) (TF := (tSlice tI)) (y := (gi a_ i_103).Hints) T hS kr kr kr h530 kr kr kr (fun cs h => Api_Step_f3 h) ?_)
              intro A563 a h564 hS
              refine andH (Hold.of hS (bks := []) kr hD) ?_
              intro hH
              refine anyOf (is := [43, 48]) kr (by decide) ?_
              intro i hi
              rcases mem2 hi with rfl | rfl
              ·refine oneOp (by rfl) (load1 T hS kr kr kr h564 rfl kr ?_)
               intro v565 a hv hS
               obtain ⟨a566, c567, hv, h568⟩ := hv
               cases hv
               refine andH (Hold.of hS (bks := []) kr hD) ?_
               intro hH
               refine only 48 kr (by rfl) (load1 T hS kr kr kr h562 rfl kr ?_)
               intro v569 a hv hS
               obtain ⟨a570, c571, hv, h572⟩ := hv
               cases hv
               refine andH (Hold.of hS (bks := []) kr hD) ?_
               intro hH
               exact H _ _ ⟨_, A529, A563, a566, c567, A527, A561, a570, c571, hS.sl _, hO, hD, hH, h101, h102, h120, h122, h125, h127, h130, h132, h136, h138, h140, h144, h530, h564, h568, h528, h562, h572⟩
              ·refine oneOp (by rfl) (load1 T hS kr kr kr h562 rfl kr ?_)
               intro v573 a hv hS
               obtain ⟨a574, c575, hv, h576⟩ := hv
               cases hv
               refine andH (Hold.of hS (bks := []) kr hD) ?_
               intro hH
               refine only 43 kr (by rfl) (load1 T hS kr kr kr h564 rfl kr ?_)
               intro v577 a hv hS
               obtain ⟨a578, c579, hv, h580⟩ := hv
               cases hv
               refine andH (Hold.of hS (bks := []) kr hD) ?_
               intro hH
               exact H _ _ ⟨_, A529, A563, a578, c579, A527, A561, a574, c575, hS.sl _, hO, hD, hH, h101, h102, h120, h122, h125, h127, h130, h132, h136, h138, h140, h144, h530, h564, h580, h528, h562, h576⟩
             ·refine oneOp (by rfl) (load1 T hS kr kr kr h562 rfl kr ?_)
              intro v581 a hv hS
              obtain ⟨a582, c583, hv, h584⟩ := hv
              cases hv
              refine andH (Hold.of hS (bks := []) kr hD) ?_
              intro hH
              refine only 42 kr (by rfl) (fieldA (off := 3) (fsz := 1) (ft := 31) (TF := (tSlice tI)) (y := (gi a_ i_103).Hints) T hS kr kr kr h530 kr kr kr (fun cs h => Api_Step_f3 h) ?_)
              intro A585 a h586 hS
              refine andH (Hold.of hS (bks := []) kr hD) ?_
              intro hH
              refine only 43 kr (by rfl) (load1 T hS kr kr kr h586 rfl kr ?_)
              intro v587 a hv hS
              obtain ⟨a588, c589, hv, h590⟩ := hv
              cases hv
              refine andH (Hold.of hS (bks := []) kr hD) ?_
              intro hH
              exact H _ _ ⟨_, A529, A585, a588, c589, A527, A561, a582, c583, hS.sl _, hO, hD, hH, h101, h102, h120, h122, h125, h127, h130, h132, h136, h138, h140, h144, h530, h586, h590, h528, h562, h584⟩
           ·refine oneOp (by rfl) (fieldA (off := 3) (fsz := 1) (ft := 31) (TF := (tSlice tI)) (y := (gi b_ i_103).Hints) T hS kr kr kr h528 kr kr kr (fun cs h => Api_Step_f3 h) ?_)
            intro A591 a h592 hS
            refine andH (Hold.of hS (bks := []) kr hD) ?_
            intro hH
            refine anyOf (is := [41, 48]) kr (by decide) ?_
            intro i hi
            rcases mem2 hi with rfl | rfl
            ·have hq := hgq41
             refine oneOp (by rfl) (index (e := 52) (k := .i64) T hS kr kr kr kr h101 kr kr hq.1 hq.2 ?_)
             intro A593 a h594 hS
             clear hq
             refine andH (Hold.of hS (bks := []) kr hD) ?_
             intro hH
             refine anyOf (is := [42, 48]) kr (by decide) ?_
             intro i hi
             rcases mem2 hi with rfl | rfl
             ·refine oneOp (by rfl) (fieldA (off := 3) (fsz := 1) (ft := 31) (TF := (tSlice tI)) (y := (gi a_ i_103).Hints) T hS kr kr kr h594 kr kr kr (fun cs h => Api_Step_f3 h) ?_)
              intro A595 a h596 hS
              refine andH (Hold.of hS (bks := []) kr hD) ?_
              intro hH
              refine anyOf (is := [43, 48]) kr (by decide) ?_
              intro i hi
              rcases mem2 hi with rfl | rfl
              ·refine oneOp (by rfl) (load1 T hS kr kr kr h596 rfl kr ?_)
               intro v597 a hv hS
               obtain ⟨a598, c599, hv, h600⟩ := hv
               cases hv
               refine andH (Hold.of hS (bks := []) kr hD) ?_
               intro hH
               refine only 48 kr (by rfl) (load1 T hS kr kr kr h592 rfl kr ?_)
               intro v601 a hv hS
               obtain ⟨a602, c603, hv, h604⟩ := hv
               cases hv
               refine andH (Hold.of hS (bks := []) kr hD) ?_
               intro hH
               exact H _ _ ⟨_, A593, A595, a598, c599, A527, A591, a602, c603, hS.sl _, hO, hD, hH, h101, h102, h120, h122, h125, h127, h130, h132, h136, h138, h140, h144, h594, h596, h600, h528, h592, h604⟩
              ·refine oneOp (by rfl) (load1 T hS kr kr kr h592 rfl kr ?_)
               intro v605 a hv hS
               obtain ⟨a606, c607, hv, h608⟩ := hv
               cases hv
               refine andH (Hold.of hS (bks := []) kr hD) ?_
               intro hH
               refine only 43 kr (by rfl) (load1 T hS kr kr kr h596 rfl kr ?_)
               intro v609 a hv hS
               obtain ⟨a610, c611, hv, h612⟩ := hv
               cases hv
               refine andH (Hold.of hS (bks := []) kr hD) ?_
               intro hH
               exact H _ _ ⟨_, A593, A595, a610, c611, A527, A591, a606, c607, hS.sl _, hO, hD, hH, h101, h102, h120, h122, h125, h127, h130, h132, h136, h138, h140, h144, h594, h596, h612, h528, h592, h608⟩
             ·refine oneOp (by rfl) (load1 T hS kr kr kr h592 rfl kr ?_)
              intro v613 a hv hS
              obtain ⟨a614, c615, hv, h616⟩ := hv
              cases hv
              refine andH (Hold.of hS (bks := []) kr hD) ?_
              intro hH
              refine only 42 kr (by rfl) (fieldA (off := 3) (fsz := 1) (ft := 31) (TF := (tSlice tI)) (y := (gi a_ i_103).Hints) T hS kr kr kr h594 kr kr kr (fun cs h => Api_Step_f3 h) ?_)
              intro A617 a h618 hS
              refine andH (Hold.of hS (bks := []) kr hD) ?_
              intro hH
              refine only 43 kr (by rfl) (load1 T hS kr kr kr h618 rfl kr ?_)
              intro v619 a hv hS
              obtain ⟨a620, c621, hv, h622⟩ := hv
              cases hv
              refine andH (Hold.of hS (bks := []) kr hD) ?_
              intro hH
              exact H _ _ ⟨_, A593, A617, a620, c621, A527, A591, a614, c615, hS.sl _, hO, hD, hH, h101, h102, h120, h122, h125, h127, h130, h132, h136, h138, h140, h144, h594, h618, h622, h528, h592, h616⟩
            ·refine oneOp (by rfl) (load1 T hS kr kr kr h592 rfl kr ?_)
             intro v623 a hv hS
             obtain ⟨a624, c625, hv, h626⟩ := hv
             cases hv
             refine andH (Hold.of hS (bks := []) kr hD) ?_
             intro hH
             have hq := hgq41
             refine only 41 kr (by rfl) (index (e := 52) (k := .i64) T hS kr kr kr kr h101 kr kr hq.1 hq.2 ?_)
             intro A627 a h628 hS
             clear hq
             refine andH (Hold.of hS (bks := []) kr hD) ?_
             intro hH
             refine only 42 kr (by rfl) (fieldA (off := 3) (fsz := 1) (ft := 31) (TF := (tSlice tI)) (y := (gi a_ i_103).Hints) T hS kr kr kr h628 kr kr kr (fun cs h => Api_Step_f3 h) ?_)
             intro A629 a h630 hS
             refine andH (Hold.of hS (bks := []) kr hD) ?_
             intro hH
             refine only 43 kr (by rfl) (load1 T hS kr kr kr h630 rfl kr ?_)
             intro v631 a hv hS
             obtain ⟨a632, c633, hv, h634⟩ := hv
             cases hv
             refine andH (Hold.of hS (bks := []) kr hD) ?_
             intro hH
             exact H _ _ ⟨_, A627, A629, a632, c633, A527, A591, a624, c625, hS.sl _, hO, hD, hH, h101, h102, h120, h122, h125, h127, h130, h132, h136, h138, h140, h144, h628, h630, h634, h528, h592, h626⟩
     ·rintro a w642 ⟨ρ, χ641, x_106, hm, hS, hO, h104, h105⟩
      unfold VC10_J2 at hm
      refine wcond hS (b := x_106) kr (fun hb => ?_) (fun hb => ?_)
      ·replace hm := hm.1 hb
       refine rP T hS ⟨[(4, B false)], []⟩ fun a hS => ?_
       refine wret ?_
       exact fin T hS hO (fun c => c) rfl (r := [.bool false]) kr (fun χ' hM hC => ⟨false, hm, rfl⟩)
      ·replace hm := hm.2 hb
       refine wskip ?_
       refine region (eP T hS ⟨[(0, Sl a1 a_ c1), (1, Sl a2 b_ c2), (5, I (IntKind.i64.wrap (i_103 + 1)))], []⟩ fun a hS => ?_)
       exact ⟨IntKind.i64.wrap (i_103 + 1), ⟨ρ, _, hm.1, hS.sl _, hO, h104, h105⟩, hm.2⟩
    ·replace hm := hm.2 hb
     refine wexit (by rfl) ?_
     exact ⟨ρ, _, hm, hS.sl _, hO⟩
  ·rintro a w646 ⟨ρ, χ645, hm, hS, hO⟩
   unfold VC10_J1 at hm
   refine rP T hS ⟨[(4, B true)], []⟩ fun a hS => ?_
   refine wret ?_
   exact fin T hS hO (fun c => c) rfl (r := [.bool true]) kr (fun χ' hM hC => ⟨true, hm, rfl⟩)
theorem C10 (k19 : S19) (v : ∀ (a_ : List Api_Step) (b_ : List Api_Step), VC10 a_ b_ (fun r => r = ref10_Same a_ b_)) : S10 := by
 intro w χ a_ b_ a1 c1 a2 c2   h1 h2
 refine (W10 k19 w χ a_ b_ a1 c1 a2 c2   _ (v a_ b_) h1 h2).mono ?_
 rintro _ _ _ _ ⟨r, rfl, h⟩
 exact h
end Go.Proofs.YtebhbnlbfglmkaaDoor
