/- Walks: each function returns what its condition asks. Condition: the contracts of its callees, handed in. -/
import Derived.Test.YtomodhnocjmfpaaQWalksS
set_option linter.all false
namespace Go.Proofs.Ytomodhnocjmfpaa
open Go Go.Sv
set_option maxHeartbeats 1000000
/-- replevin/replevinlaw30.SearchCounts -/
theorem W5 (k10 : S10) (k6 : S6) (k7 : S7) (k8 : S8) (w0 : World) (χ0 : Nat → Nat) (o_ : Api_Object) (l_ : List Api_Oper) (kind : Int) (a1 : Option Addr) (c1 : Nat) (a2 : Option Addr) (c2 : Nat) (Q : Bool → Prop) (hm : VC5 o_ l_ kind Q) (h1 : RS tApi_Row w0 χ0 a1 o_.Rows c1) (h2 : RS tApi_Oper w0 χ0 a2 l_ c2) :
  Ret Try.prog 5 #[.agg #[.int .i64 o_.States, .int .i64 o_.Kinds, .int .i64 o_.Init, .slice a1 o_.Rows.length c1], .slice a2 l_.length c2, .int .i64 kind] xnone w0 χ0 (fun w χ' v => ∃ r, Q r ∧ v = .bool r) := by
 unfold VC5 at hm
 replace hm := hm (h1.sm kr)
 replace hm := hm (h2.sm kr)
 refine enter Try.func5 rfl (vals := [.agg #[.int .i64 o_.States, .int .i64 o_.Kinds, .int .i64 o_.Init, .slice a1 o_.Rows.length c1], .slice a2 l_.length c2, .int .i64 kind]) kr ?_
 intro ρ a hS hO hM
 replace h1 := h1.m0 hM
 replace h2 := h2.m0 hM
 clear hM
 refine rM T hS ⟨[(1, Sl a2 l_ c2), (2, I kind), (3, Pt 4 0)], [(4, (24, [I o_.States, I o_.Kinds, I o_.Init, Sl a1 o_.Rows c1]))]⟩ fun ρ a w167 χ168 hS hE hr => ?_
 replace hO := hO.mv hE rfl rfl
 replace h1 := h1.mv hE rfl
 replace h2 := h2.mv hE rfl
 clear hE hr
 refine wseq ?_
 refine regO ?_
 refine oP T hS 1 ⟨[(1, Sl a2 l_ c2), (2, I kind), (3, Pt 4 0), (15, V (.agg #[.int .i64 o_.States, .int .i64 o_.Kinds, .int .i64 o_.Init, .slice a1 o_.Rows.length c1]))], [(4, (24, [I o_.States, I o_.Kinds, I o_.Init, Sl a1 o_.Rows c1]))]⟩ fun a hS => ?_
 refine op1 (call hS kr kr hb6 kr (fun _ _ => rfl) (k6 _ _ o_ a1 c1 h1) ?_)
 intro v101 a w102 χ103 hE hp hS
 replace hO := hO.mv hE rfl rfl
 replace h1 := h1.mv hE rfl
 replace h2 := h2.mv hE rfl
 clear hE
 obtain ⟨r104, hr⟩ : ∃ r, law23_Few o_ = r := ⟨_, rfl⟩
 replace hm := hm r104 hr
 rw [hr] at hp
 clear hr
 subst hp
 refine eP T hS ⟨[(1, Sl a2 l_ c2), (2, I kind), (3, Pt 4 0), (30, B ((((!r104) || (decide (((l_.length : Nat) : Int) > 5))) || (decide (kind < 0))) || (decide (kind > 63))))], [(4, (24, [I o_.States, I o_.Kinds, I o_.Init, Sl a1 o_.Rows c1]))]⟩ (sp := [18, 23, 27]) fun a hS => ?_
 refine wcond hS (b := ((((!r104) || (decide (((l_.length : Nat) : Int) > 5))) || (decide (kind < 0))) || (decide (kind > 63)))) kr (fun hb => ?_) (fun hb => ?_)
 ·replace hm := hm.1 hb
  refine regO ?_
  refine op1 (call hS kr kr hb7 kr (fun _ _ => rfl) (k7 _ _) ?_)
  intro v105 a w106 χ107 hE hp hS
  replace hO := hO.mv hE rfl rfl
  replace h1 := h1.mv hE rfl
  replace h2 := h2.mv hE rfl
  clear hE
  obtain ⟨r108, hr⟩ : ∃ r, law30_awake = r := ⟨_, rfl⟩
  replace hm := hm r108 hr
  rw [hr] at hp
  clear hr
  subst hp
  refine eP T hS ⟨[(6, B r108)], []⟩ fun a hS => ?_
  refine wret ?_
  exact fin T hS hO (fun c => c) rfl (r := [.bool r108]) kr (fun χ' hM hC => ⟨r108, hm, rfl⟩)
 ·replace hm := hm.2 hb
  refine wskip ?_
  refine regO ?_
  refine oP T hS 2 ⟨[(1, Sl a2 l_ c2), (2, I kind), (3, Pt 4 0), (33, V (.agg #[.int .i64 o_.States, .int .i64 o_.Kinds, .int .i64 o_.Init, .slice a1 o_.Rows.length c1])), (34, Sl a2 l_ c2)], [(4, (24, [I o_.States, I o_.Kinds, I o_.Init, Sl a1 o_.Rows c1]))]⟩ fun a hS => ?_
  obtain ⟨hq, hm⟩ := hm
  refine op1 (call hS kr kr hb10 kr (fun _ _ => rfl) (k10 _ _ o_ l_ a1 c1 a2 c2 hq h1 h2) ?_)
  intro v109 a w110 χ111 hE hp hS
  clear hq
  replace hO := hO.mv hE rfl rfl
  replace h1 := h1.mv hE rfl
  replace h2 := h2.mv hE rfl
  clear hE
  obtain ⟨r112, hr⟩ : ∃ r, search_Count o_ l_ = r := ⟨_, rfl⟩
  replace hm := hm r112 hr
  rw [hr] at hp
  clear hr
  subst hp
  refine eP T hS ⟨[(1, Sl a2 l_ c2), (2, I kind), (3, Pt 4 0), (7, I r112.1), (8, I r112.2)], [(4, (24, [I o_.States, I o_.Kinds, I o_.Init, Sl a1 o_.Rows c1]))]⟩ fun a hS => ?_
  refine regO ?_
  refine oP T hS 2 ⟨[(1, Sl a2 l_ c2), (2, I kind), (3, Pt 4 0), (7, I r112.1), (8, I r112.2), (39, V (.agg #[.int .i64 o_.States, .int .i64 o_.Kinds, .int .i64 o_.Init, .slice a1 o_.Rows.length c1])), (40, Sl a2 l_ c2)], [(4, (24, [I o_.States, I o_.Kinds, I o_.Init, Sl a1 o_.Rows c1]))]⟩ fun a hS => ?_
  obtain ⟨hq, hm⟩ := hm
  refine op1 (call hS kr kr hb8 kr (fun _ _ => rfl) (k8 _ _ o_ l_ a1 c1 a2 c2 hq h1 h2) ?_)
  intro v113 a w114 χ115 hE hp hS
  clear hq
  replace hO := hO.mv hE rfl rfl
  replace h1 := h1.mv hE rfl
  replace h2 := h2.mv hE rfl
  clear hE
  obtain ⟨a117, c118, hp, h119⟩ := hp
  obtain ⟨r116, hr⟩ : ∃ r, search_Search o_ l_ = r := ⟨_, rfl⟩
  replace hm := hm r116 hr
  rw [hr] at hp h119
  clear hr
  subst hp
  replace hm := hm (h119.sm kr)
  refine eP T hS ⟨[(1, Sl a2 l_ c2), (2, I kind), (3, Pt 4 0), (7, I r112.1), (8, I r112.2), (9, Sl a117 r116.1 c118), (10, I r116.2)], [(4, (24, [I o_.States, I o_.Kinds, I o_.Init, Sl a1 o_.Rows c1]))]⟩ fun a hS => ?_
  refine wseq ?_
  refine rP T hS ⟨[(1, Sl a2 l_ c2), (2, I kind), (3, Pt 4 0), (7, I r112.1), (9, Sl a117 r116.1 c118), (10, I r116.2), (45, B (r112.2 != 0))], [(4, (24, [I o_.States, I o_.Kinds, I o_.Init, Sl a1 o_.Rows c1]))]⟩ fun a hS => ?_
  refine wcond hS (b := (r112.2 != 0)) kr (fun hb => ?_) (fun hb => ?_)
  ·replace hm := hm.1 hb
   refine regO ?_
   refine oP T hS 7 ⟨[(52, B ((r112.1 == 0) && (r116.2 != 0)))], []⟩ (sp := [48]) fun a hS => ?_
   rcases Bool.eq_false_or_eq_true ((r112.1 == 0) && (r116.2 != 0)) with hb | hb
   ·replace hS := hS.lit (t := 52) kr hb
    replace hm := hm.1 hb
    refine op1 (call hS kr kr hb7 kr (fun _ _ => rfl) (k7 _ _) ?_)
    intro v120 a w121 χ122 hE hp hS
    replace hO := hO.mv hE rfl rfl
    clear hE
    obtain ⟨r123, hr⟩ : ∃ r, law30_awake = r := ⟨_, rfl⟩
    replace hm := hm r123 hr
    rw [hr] at hp
    clear hr
    subst hp
    refine eP T hS ⟨[(6, B r123)], []⟩ fun a hS => ?_
    refine wret ?_
    exact fin T hS hO (fun c => c) rfl (r := [.bool r123]) kr (fun χ' hM hC => ⟨r123, hm, rfl⟩)
   ·replace hS := hS.lit (t := 52) kr hb
    replace hm := hm.2 hb
    refine eP T hS ⟨[(6, B false)], []⟩ fun a hS => ?_
    refine wret ?_
    exact fin T hS hO (fun c => c) rfl (r := [.bool false]) kr (fun χ' hM hC => ⟨false, hm, rfl⟩)
  ·replace hm := hm.2 hb
   refine wskip ?_
   refine wseq ?_
   refine rP T hS ⟨[(1, Sl a2 l_ c2), (2, I kind), (3, Pt 4 0), (7, I r112.1), (9, Sl a117 r116.1 c118), (63, B (((decide (r112.1 > 0)) != (r116.2 == 0)) || (decide (r112.1 < 0))))], [(4, (24, [I o_.States, I o_.Kinds, I o_.Init, Sl a1 o_.Rows c1]))]⟩ (sp := [60]) fun a hS => ?_
   refine wcond hS (b := (((decide (r112.1 > 0)) != (r116.2 == 0)) || (decide (r112.1 < 0)))) kr (fun hb => ?_) (fun hb => ?_)
   ·replace hm := hm.1 hb
    refine rP T hS ⟨[(6, B false)], []⟩ fun a hS => ?_
    refine wret ?_
    exact fin T hS hO (fun c => c) rfl (r := [.bool false]) kr (fun χ' hM hC => ⟨false, hm, rfl⟩)
   ·replace hm := hm.2 hb
    refine wskip ?_
    refine regO ?_
    refine op1 (lit (E := 45) (col := 1012) (T := tApi_Oper) (vals := []) (ys := ([] : List Api_Oper)) T hS kr kr kr kr trivial rfl kr kr kr kr ?_)
    intro b124 a w125 χ126 hE h127 hN hS
    clear hN
    replace hO := hO.mv hE rfl rfl
    replace h1 := h1.mv hE rfl
    replace h2 := h2.mv hE rfl
    replace h119 := h119.mv hE rfl
    clear hE
    refine oP T hS 1 ⟨[(1, Sl a2 l_ c2), (2, I kind), (3, Pt 4 0), (7, I r112.1), (9, Sl a117 r116.1 c118), (64, Sl (some ⟨b124, 0, none⟩) ([] : List Api_Oper) 0), (65, Sl a2 l_ c2)], [(4, (24, [I o_.States, I o_.Kinds, I o_.Init, Sl a1 o_.Rows c1]))]⟩ fun a hS => ?_
    obtain ⟨hq, hm⟩ := hm
    obtain ⟨news, hN⟩ := h2.src
    refine op1 (append (E := 45) (T := tApi_Oper) (col := 1012) (xs := ([] : List Api_Oper)) T hS kr kr kr kr h127 hN kr kr kr kr hq ?_)
    intro a131 c132 a w128 χ129 hE h130 hS
    clear hq hN
    clear h127
    replace hO := hO.mv hE rfl rfl
    replace h1 := h1.mv hE rfl
    replace h2 := h2.mv hE rfl
    replace h119 := h119.mv hE rfl
    clear hE
    refine oP T hS 2 ⟨[(1, Sl a2 l_ c2), (3, Pt 4 0), (7, I r112.1), (9, Sl a117 r116.1 c118), (66, Sl a131 (([] : List Api_Oper) ++ l_) c132), (68, V (.agg #[.int .i64 1000, .int .i64 kind, .int .i64 9999, .int .i64 (-1), .int .i64 (-1)]))], [(4, (24, [I o_.States, I o_.Kinds, I o_.Init, Sl a1 o_.Rows c1]))]⟩ fun a hS => ?_
    refine op1 (lit (E := 45) (col := 0) (T := tApi_Oper) (vals := [.agg #[.int .i64 1000, .int .i64 kind, .int .i64 9999, .int .i64 (-1), .int .i64 (-1)]]) (ys := [(⟨1000, kind, 9999, (-1), (-1)⟩ : Api_Oper)]) T hS kr kr kr kr (by exact ⟨rfl, trivial⟩) rfl kr kr kr kr ?_)
    intro b133 a w134 χ135 hE h136 hN hS
    clear hN
    replace hO := hO.mv hE rfl rfl
    replace h1 := h1.mv hE rfl
    replace h2 := h2.mv hE rfl
    replace h119 := h119.mv hE rfl
    replace h130 := h130.mv hE rfl rfl
    clear hE
    replace h136 := h136.rs0
    obtain ⟨hq, hm⟩ := hm
    obtain ⟨news, hN⟩ := h136.src
    refine op1 (append (E := 45) (T := tApi_Oper) (col := 1012) (xs := ([] : List Api_Oper) ++ l_) T hS kr kr kr kr h130 hN kr kr kr kr hq ?_)
    intro a140 c141 a w137 χ138 hE h139 hS
    clear hq hN
    clear h130
    replace hO := hO.mv hE rfl rfl
    replace h1 := h1.mv hE rfl
    replace h2 := h2.mv hE rfl
    replace h119 := h119.mv hE rfl
    replace h136 := h136.mv hE rfl
    clear hE
    refine eP T hS ⟨[(1, Sl a2 l_ c2), (3, Pt 4 0), (7, I r112.1), (9, Sl a117 r116.1 c118), (11, Sl a140 ((([] : List Api_Oper) ++ l_) ++ [(⟨1000, kind, 9999, (-1), (-1)⟩ : Api_Oper)]) c141)], [(4, (24, [I o_.States, I o_.Kinds, I o_.Init, Sl a1 o_.Rows c1]))]⟩ fun a hS => ?_
    refine regO ?_
    refine oP T hS 2 ⟨[(1, Sl a2 l_ c2), (7, I r112.1), (9, Sl a117 r116.1 c118), (72, V (.agg #[.int .i64 o_.States, .int .i64 o_.Kinds, .int .i64 o_.Init, .slice a1 o_.Rows.length c1])), (73, Sl a140 ((([] : List Api_Oper) ++ l_) ++ [(⟨1000, kind, 9999, (-1), (-1)⟩ : Api_Oper)]) c141)], []⟩ fun a hS => ?_
    obtain ⟨hq, hm⟩ := hm
    refine op1 (call hS kr kr hb10 kr (fun _ _ => rfl) (Ret.unlend (k10 _ (lend 1012 _) o_ ((([] : List Api_Oper) ++ l_) ++ [(⟨1000, kind, 9999, (-1), (-1)⟩ : Api_Oper)]) a1 c1 a140 c141 hq (h1.m0 (M0.lend 1012)) h139.lend)) ?_)
    intro v142 a w143 χ144 hE hp hS
    clear hq
    replace hO := hO.mv hE rfl rfl
    replace h1 := h1.mv hE rfl
    replace h2 := h2.mv hE rfl
    replace h119 := h119.mv hE rfl
    replace h139 := h139.mv hE rfl rfl
    clear hE
    obtain ⟨_, hp⟩ := hp
    obtain ⟨r145, hr⟩ : ∃ r, search_Count o_ ((([] : List Api_Oper) ++ l_) ++ [(⟨1000, kind, 9999, (-1), (-1)⟩ : Api_Oper)]) = r := ⟨_, rfl⟩
    replace hm := hm r145 hr
    rw [hr] at hp
    clear hr
    subst hp
    refine eP T hS ⟨[(1, Sl a2 l_ c2), (7, I r112.1), (9, Sl a117 r116.1 c118), (12, I r145.1), (13, I r145.2)], []⟩ fun a hS => ?_
    refine wseq ?_
    refine rP T hS ⟨[(1, Sl a2 l_ c2), (7, I r112.1), (9, Sl a117 r116.1 c118), (83, B ((r145.2 == 0) && (decide (r145.1 < r112.1))))], []⟩ (sp := [79]) fun a hS => ?_
    refine wcond hS (b := ((r145.2 == 0) && (decide (r145.1 < r112.1)))) kr (fun hb => ?_) (fun hb => ?_)
    ·replace hm := hm.1 hb
     refine rP T hS ⟨[(6, B false)], []⟩ fun a hS => ?_
     refine wret ?_
     exact fin T hS hO (fun c => c) rfl (r := [.bool false]) kr (fun χ' hM hC => ⟨false, hm, rfl⟩)
    ·replace hm := hm.2 hb
     refine wskip ?_
     refine wcut (fun a w => ∃ (ρ : Nat → Nat) (χ : Nat → Nat), VC5_J1 Q r112 r116 ∧ St Try.f5.ntmps ⟨[(7, I r112.1), (9, Sl a117 r116.1 c118)], []⟩ ρ a w χ ∧ Old w0 χ0 w χ ∧ RS tApi_Pick w χ a117 r116.1 c118) ?_ ?_
     ·refine rP T hS ⟨[(1, Sl a2 l_ c2), (7, I r112.1), (9, Sl a117 r116.1 c118), (14, I 0)], []⟩ fun a hS => ?_
      refine wblock ?_
      obtain ⟨I1, μ1, hm0, hm⟩ := hm
      refine wloop (σ := Int) (fun s a w => ∃ (ρ : Nat → Nat) (χ : Nat → Nat), I1 s ∧ St Try.f5.ntmps ⟨[(1, Sl a2 l_ c2), (7, I r112.1), (9, Sl a117 r116.1 c118), (14, I s)], []⟩ ρ a w χ ∧ Old w0 χ0 w χ ∧ RS tApi_Oper w χ a2 l_ c2 ∧ RS tApi_Pick w χ a117 r116.1 c118) (fun s => μ1 s) (0) ?_ ?_
      ·exact ⟨ρ, _, hm0, hS.sl _, hO, h2, h119⟩
      ·rintro i_153 a w164 ⟨ρ, χ163, hI, hS, hO, h151, h152⟩
       replace hm := hm i_153 hI
       clear hI hm0
       refine wseq ?_
       refine rP T hS ⟨[(1, Sl a2 l_ c2), (7, I r112.1), (9, Sl a117 r116.1 c118), (14, I i_153), (87, B (decide (i_153 < ((l_.length : Nat) : Int))))], []⟩ fun a hS => ?_
       refine wcond hS (b := decide (i_153 < ((l_.length : Nat) : Int))) kr (fun hb => ?_) (fun hb => ?_)
       ·replace hm := hm.1 hb
        refine wskip ?_
        refine wseq ?_
        refine wblock ?_
        refine regO ?_
        refine oP T hS 2 ⟨[(1, Sl a2 l_ c2), (7, I r112.1), (9, Sl a117 r116.1 c118), (14, I i_153), (90, Sl a2 l_ c2), (91, I i_153)], []⟩ fun a hS => ?_
        obtain ⟨hq, hm⟩ := hm
        refine op1 (index (e := 45) (k := .i64) T hS kr kr kr kr h151 kr kr hq.1 hq.2 ?_)
        intro A154 a h155 hS
        clear hq
        refine op1 (fieldA (off := 3) (fsz := 1) (ft := 3) (TF := tI) (y := (gi l_ i_153).End) T hS kr kr kr h155 kr kr kr (fun cs h => Api_Oper_f3 h) ?_)
        intro A156 a h157 hS
        refine op1 (load1 T hS kr kr kr h157 rfl kr ?_)
        intro v158 a hv hS
        cases hv
        refine eP T hS ⟨[(1, Sl a2 l_ c2), (7, I r112.1), (9, Sl a117 r116.1 c118), (14, I i_153), (95, B (((gi l_ i_153).End) != (-1)))], []⟩ fun a hS => ?_
        refine wcond hS (b := (((gi l_ i_153).End) != (-1))) kr (fun hb => ?_) (fun hb => ?_)
        ·replace hm := hm.1 hb
         refine regO ?_
         refine op1 (call hS kr kr hb7 kr (fun _ _ => rfl) (k7 _ _) ?_)
         intro v159 a w160 χ161 hE hp hS
         replace hO := hO.mv hE rfl rfl
         replace h151 := h151.mv hE rfl
         replace h152 := h152.mv hE rfl
         clear hE
         obtain ⟨r162, hr⟩ : ∃ r, law30_awake = r := ⟨_, rfl⟩
         replace hm := hm r162 hr
         rw [hr] at hp
         clear hr
         subst hp
         refine eP T hS ⟨[(6, B r162)], []⟩ fun a hS => ?_
         refine wret ?_
         exact fin T hS hO (fun c => c) rfl (r := [.bool r162]) kr (fun χ' hM hC => ⟨r162, hm, rfl⟩)
        ·replace hm := hm.2 hb
         refine wskip ?_
         refine region (eP T hS ⟨[(1, Sl a2 l_ c2), (7, I r112.1), (9, Sl a117 r116.1 c118), (14, I (IntKind.i64.wrap (i_153 + 1)))], []⟩ fun a hS => ?_)
         exact ⟨IntKind.i64.wrap (i_153 + 1), ⟨ρ, _, hm.1, hS.sl _, hO, h151, h152⟩, hm.2⟩
       ·replace hm := hm.2 hb
        refine wexit (by rfl) ?_
        exact ⟨ρ, _, hm, hS.sl _, hO, h152⟩
     ·rintro a w166 ⟨ρ, χ165, hm, hS, hO, h146⟩
      unfold VC5_J1 at hm
      refine regO ?_
      refine oP T hS 8 ⟨[(104, B ((decide (r112.1 > 0)) && (((r116.1.length : Nat) : Int) == 0)))], []⟩ (sp := [99]) fun a hS => ?_
      rcases Bool.eq_false_or_eq_true ((decide (r112.1 > 0)) && (((r116.1.length : Nat) : Int) == 0)) with hb | hb
      ·replace hS := hS.lit (t := 104) kr hb
       replace hm := hm.1 hb
       refine op1 (call hS kr kr hb7 kr (fun _ _ => rfl) (k7 _ _) ?_)
       intro v147 a w148 χ149 hE hp hS
       replace hO := hO.mv hE rfl rfl
       clear hE
       obtain ⟨r150, hr⟩ : ∃ r, law30_awake = r := ⟨_, rfl⟩
       replace hm := hm r150 hr
       rw [hr] at hp
       clear hr
       subst hp
       refine eP T hS ⟨[(6, B r150)], []⟩ fun a hS => ?_
       refine wret ?_
       exact fin T hS hO (fun c => c) rfl (r := [.bool r150]) kr (fun χ' hM hC => ⟨r150, hm, rfl⟩)
      ·replace hS := hS.lit (t := 104) kr hb
       replace hm := hm.2 hb
       refine eP T hS ⟨[(6, B false)], []⟩ fun a hS => ?_
       refine wret ?_
       exact fin T hS hO (fun c => c) rfl (r := [.bool false]) kr (fun χ' hM hC => ⟨false, hm, rfl⟩)
end Go.Proofs.Ytomodhnocjmfpaa
