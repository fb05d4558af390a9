/- Walks of the functions: each returns what its condition asks. -/
import Derived.Test.YteahldlmkheleaaLWalksS
set_option linter.all false
namespace Go.Proofs.Yteahldlmkheleaa
open Go Go.Sv
abbrev zL3f0 (col1 : Nat) : Nat -> Nat := fun c => (bif Nat.beq c 1001 then col1 else c)
set_option maxHeartbeats 1000000
theorem W34_35 (k35 : S35) (w0) (X0) (l_ : List al) (cap1 : ak) (cap2 : Int) (a1) (c1) (a2) (c2) (a3) (c3) (b1) (i1) (b2) (i2) (Q : (List al) -> Prop) (hm : VC34_35 l_ cap1 cap2 Q) (h1 : RS az w0 X0 a1 l_ c1) (h2 : RS aE w0 X0 a2 cap1.ae c2) (h3 : RS aK w0 X0 a3 cap1.aj c3) (hc1 : Cell w0 X0 b1 i1 25 [.slice a2 cap1.ae.length c2, .slice a3 cap1.aj.length c3]) (hc2 : Cell w0 X0 b2 i2 3 [.int .i64 cap2]) (hA : cH [i1, i2]) :
  Ret Try.prog 34 #[.slice a1 l_.length c1, .func (.func 35) #[] #[.pointer (some ⟨b1, 0, none⟩), .pointer (some ⟨b2, 0, none⟩)]] (pR [i1, i2]) w0 X0 (fun w X' v => ∃ r, Q r /\ ∃ ra1 rc1, v = .slice ra1 r.length rc1 /\ RS az w X' ra1 r rc1 /\ Cell w X' b1 i1 25 [.slice a2 cap1.ae.length c2, .slice a3 cap1.aj.length c3] /\ Cell w X' b2 i2 3 [.int .i64 cap2]) := by
 unfold VC34_35 at hm
 replace hm := hm (h1.sm kr)
 replace hm := hm (h2.sm kr)
 replace hm := hm (h3.sm kr)
 refine dI Try.func34 rfl (cy [(i1, 901), (i2, 902)]) (fun id => (bif Nat.beq id 901 then b1 else (bif Nat.beq id 902 then b2 else 0))) (args := [Sl a1 l_ c1, .f (.func 35) [] [.p 901 0, .p 902 0]]) (bxs := [(901, (25, [Sl a2 cap1.ae c2, Sl a3 cap1.aj c3])), (902, (3, [I cap2]))]) kr rfl (a8.cons kr (hc1.map (bn 0 hA.1 rfl)) (a8.cons kr (hc2.map (bn 1 hA.1 rfl)) a8.nil)) (dA (fun q hq => (hA.2 q.1 (List.mem_map.2 ⟨q, hq, rfl⟩)).1)) ?_
 intro a hS hO hM
 have hP : Pin [(901, b1), (902, b2)] (fun id => (bif Nat.beq id 901 then b1 else (bif Nat.beq id 902 then b2 else 0))) := by intro q hq; simp at hq; rcases hq with rfl | rfl <;> rfl
 generalize (fun id => (bif Nat.beq id 901 then b1 else (bif Nat.beq id 902 then b2 else 0))) = Z at hS hP
 clear hc1 hc2
 replace h1 := h1.m0 hM
 replace h2 := h2.m0 hM
 replace h3 := h3.m0 hM
 refine rPb T hS [(0, Sl a1 l_ c1), (1, .f (.func 35) [] [.p 901 0, .p 902 0])] fun a hS => ?_
 refine rPb T hS [(0, Sl a1 l_ c1), (1, .f (.func 35) [] [.p 901 0, .p 902 0]), (5, V (.slice none 0 0))] fun a hS => ?_
 refine bU (fun a w => ∃ (Z : Nat -> Nat) (X : Nat -> Nat) (y101 : List al) (a102 : Option Addr) (c103 : Nat), VC34_35_J1 Q y101 /\ St Try.f34.ntmps ⟨[(5, Sl a102 y101 c103)], [(901, (25, [Sl a2 cap1.ae c2, Sl a3 cap1.aj c3])), (902, (3, [I cap2]))]⟩ Z a w X /\ dR (cy [(i1, 901), (i2, 902)]) w0 X0 w X /\ Pin [(901, b1), (902, b2)] Z /\ OS az 62 w X 1005 a102 y101 c103 /\ RS aE w X a2 cap1.ae c2 /\ RS aK w X a3 cap1.aj c3) ?_ ?_
 ·refine rPb T hS [(1, .f (.func 35) [] [.p 901 0, .p 902 0]), (5, V (.slice none 0 0)), (8, Sl a1 l_ c1), (9, I (lN l_)), (10, I 0)] fun a hS => ?_
  refine aO ?_
  obtain ⟨I1, μ1, hm0, hm⟩ := hm
  refine b8 (σ := (List al) × Int) (fun s a w => ∃ Z X a110 c111, I1 s.1 s.2 /\ St Try.f34.ntmps ⟨[(1, .f (.func 35) [] [.p 901 0, .p 902 0]), (5, Sl a110 s.1 c111), (8, Sl a1 l_ c1), (9, I (lN l_)), (10, I s.2)], [(901, (25, [Sl a2 cap1.ae c2, Sl a3 cap1.aj c3])), (902, (3, [I cap2]))]⟩ Z a w X /\ dR (cy [(i1, 901), (i2, 902)]) w0 X0 w X /\ Pin [(901, b1), (902, b2)] Z /\ OS az 62 w X 1005 a110 s.1 c111 /\ RS az w X a1 l_ c1 /\ RS aE w X a2 cap1.ae c2 /\ RS aK w X a3 cap1.aj c3) (fun s => μ1 s.1 s.2) (⟨[], 0⟩) ?_ ?_
  ·exact ⟨Z, _, none, 0, hm0, hS.sl _, hO, hP, (OS.nil _ _ _ _ _), h1, h2, h3⟩
  rintro ⟨y109, y114⟩ a w147 ⟨Z, X146, a110, c111, hI, hS, hO, hP, h112, h113, h115, h116⟩
  replace hm := hm y109 y114 hI
  clear hI hm0
  refine rPb T hS [(1, .f (.func 35) [] [.p 901 0, .p 902 0]), (5, Sl a110 y109 c111), (8, Sl a1 l_ c1), (9, I (lN l_)), (10, I y114), (11, B (decide (y114 < (lN l_))))] fun a hS => ?_
  refine ba ?_
  refine aG hS (b := decide (y114 < (lN l_))) kr (fun hb => ?_) fun hb => ?_
  ·replace hm := hm.1 hb
   refine aJ ?_
   refine bU (fun a w => ∃ (Z : Nat -> Nat) (X : Nat -> Nat) (y117 : List al) (a118 : Option Addr) (c119 : Nat), VC34_35_J2 I1 μ1 y109 y114 y117 /\ St Try.f34.ntmps ⟨[(1, .f (.func 35) [] [.p 901 0, .p 902 0]), (5, Sl a118 y117 c119), (8, Sl a1 l_ c1), (9, I (lN l_)), (10, I y114)], [(901, (25, [Sl a2 cap1.ae c2, Sl a3 cap1.aj c3])), (902, (3, [I cap2]))]⟩ Z a w X /\ dR (cy [(i1, 901), (i2, 902)]) w0 X0 w X /\ Pin [(901, b1), (902, b2)] Z /\ OS az 62 w X 1005 a118 y117 c119 /\ RS az w X a1 l_ c1 /\ RS aE w X a2 cap1.ae c2 /\ RS aK w X a3 cap1.aj c3) ?_ ?_
   ·refine aO ?_
    refine bb ?_
    refine oPb T hS 1 [(1, .f (.func 35) [] [.p 901 0, .p 902 0]), (5, Sl a110 y109 c111), (8, Sl a1 l_ c1), (9, I (lN l_)), (10, I y114), (12, I y114)] fun a hS => ?_
    obtain ⟨hq, hm⟩ := hm
    refine op1 (index (e := 62) (k := .i64) T hS kr kr kr kr h113 kr kr hq.1 hq.2 ?_)
    intro A124 a h125 hS
    refine op1 (di T hS kr kr kr h125 kr kr ?_)
    intro v126 a hv hS
    subst hv
    refine eM T hS ⟨[(1, .f (.func 35) [] [.p 901 0, .p 902 0]), (5, Sl a110 y109 c111), (6, I y114), (7, Pt 8 0), (8, Sl a1 l_ c1), (9, I (lN l_)), (10, I y114)], [(8, (62, (cE (gi l_ y114)))), (901, (25, [Sl a2 cap1.ae c2, Sl a3 cap1.aj c3])), (902, (3, [I cap2]))]⟩ fun Z a w142 X143 hS hE hr => ?_
    replace hO := hO.m2 hE
    replace h112 := h112.m2 hE
    replace h113 := h113.m1 hE
    replace h115 := h115.m1 hE
    replace h116 := h116.m1 hE
    replace hP := hP.mv hr kr
    clear hE hr
    refine bb ?_
    refine oPb T hS 2 [(1, .f (.func 35) [] [.p 901 0, .p 902 0]), (5, Sl a110 y109 c111), (7, Pt 8 0), (8, Sl a1 l_ c1), (9, I (lN l_)), (10, I y114), (15, .f (.func 35) [] [.p 901 0, .p 902 0]), (16, I y114)] fun a hS => ?_
    obtain ⟨hq, hm⟩ := hm
    refine op1 (fR (fi := []) (cp := [.p 901 0, .p 902 0]) hS kr kr hb35 kr kr (k35 _ _ y114 (⟨cap1.ae, cap1.aj⟩ : ak) cap2 a2 c2 a3 c3 (Z 901) 901 (Z 902) 902 hq h115 h116 (hS.cell (id := 901) (t := 25) (cs := [Sl a2 cap1.ae c2, Sl a3 cap1.aj c3]) kr) (hS.cell (id := 902) (t := 3) (cs := [I cap2]) kr) ⟨by decide, by decide⟩) ?_)
    intro v127 a w128 X129 hE hp hS
    replace hO := hO.m2 hE
    replace h112 := h112.m2 hE
    replace h113 := h113.m1 hE
    replace h115 := h115.m1 hE
    replace h116 := h116.m1 hE
    obtain ⟨hp, hc131, hc132⟩ := hp
    obtain ⟨r130, hr⟩ : ∃ r, da y114 (⟨cap1.ae, cap1.aj⟩ : ak) cap2 = r := ⟨_, rfl⟩
    replace hm := hm r130 hr
    rw [hr] at hp
    clear hr
    subst hp
    replace hS := hS.bQ (id := 901) (t := 25) (cs := [Sl a2 cap1.ae c2, Sl a3 cap1.aj c3]) kr hc131
    replace hS := hS.bQ (id := 902) (t := 3) (cs := [I cap2]) kr hc132
    clear hc131 hc132
    refine eO ?_
    refine aG hS (b := r130) kr (fun hb => ?_) fun hb => ?_
    ·replace hm := hm.1 hb
     refine region ?_
     refine oP T hS 2 ⟨[(1, .f (.func 35) [] [.p 901 0, .p 902 0]), (5, Sl a110 y109 c111), (8, Sl a1 l_ c1), (9, I (lN l_)), (10, I y114), (18, Sl a110 y109 c111), (19, V (.agg #[.int .i64 ((gi l_ y114).aY), .int .i64 ((gi l_ y114).ab), .int .i64 ((gi l_ y114).N)]))], [(901, (25, [Sl a2 cap1.ae c2, Sl a3 cap1.aj c3])), (902, (3, [I cap2]))]⟩ fun a hS => ?_
     refine op1 (lit (E := 62) (col := 0) (T := az) (vals := [.agg #[.int .i64 ((gi l_ y114).aY), .int .i64 ((gi l_ y114).ab), .int .i64 ((gi l_ y114).N)]]) (ys := [(gi l_ y114)]) T hS kr kr kr kr (by exact ⟨rfl, trivial⟩) rfl kr kr kr kr ?_)
     intro b133 a w134 X135 hE h136 hN hS
     clear hN
     replace hO := hO.m2 hE
     replace h112 := h112.m2 hE
     replace h113 := h113.m1 hE
     replace h115 := h115.m1 hE
     replace h116 := h116.m1 hE
     replace h136 := h136.rs0
     obtain ⟨hq, hm⟩ := hm
     obtain ⟨news, hN⟩ := h136.src
     refine op1 (append (E := 62) (T := az) (col := 1005) (xs := y109) T hS kr kr kr kr h112 hN kr kr kr kr hq ?_)
     intro a140 c141 a w137 X138 hE h139 hS
     clear hq hN
     clear h112
     replace hO := hO.m2 hE
     replace h113 := h113.m1 hE
     replace h115 := h115.m1 hE
     replace h116 := h116.m1 hE
     replace h136 := h136.m1 hE
     refine ePb T hS [(1, .f (.func 35) [] [.p 901 0, .p 902 0]), (5, Sl a140 (y109 ++ [(gi l_ y114)]) c141), (8, Sl a1 l_ c1), (9, I (lN l_)), (10, I y114)] fun a hS => ?_
     exact ⟨Z, _, y109 ++ [(gi l_ y114)], a140, c141, hm, hS.sl _, hO, hP, h139, h113, h115, h116⟩
    replace hm := hm.2 hb
    refine aJ ?_
    exact ⟨Z, _, y109, a110, c111, hm, hS.sl _, hO, hP, h112, h113, h115, h116⟩
   rintro a w145 ⟨Z, X144, y117, a118, c119, hm, hS, hO, hP, h120, h121, h122, h123⟩
   unfold VC34_35_J2 at hm
   refine region (ePb T hS [(1, .f (.func 35) [] [.p 901 0, .p 902 0]), (5, Sl a118 y117 c119), (8, Sl a1 l_ c1), (9, I (lN l_)), (10, I (wR (y114 + 1)))] fun a hS => ?_)
   exact ⟨⟨y117, wR (y114 + 1)⟩, ⟨Z, _, a118, c119, hm.1, hS.sl _, hO, hP, h120, h121, h122, h123⟩, hm.2⟩
  replace hm := hm.2 hb
  refine b0 (by rfl) ?_
  exact ⟨Z, _, y109, a110, c111, hm, hS.sl _, hO, hP, h112, h115, h116⟩
 rintro a w149 ⟨Z, X148, y101, a102, c103, hm, hS, hO, hP, h104, h105, h106⟩
 unfold VC34_35_J1 at hm
 refine rPb T hS [(4, Sl a102 y101 c103)] fun a hS => ?_
 refine aU ?_
 obtain ⟨X107, hE, hF⟩ := h104.freeze (by decide)
 replace hS := hS.ev hE (bW kr)
 replace hO := hO.m2 hE
 replace h105 := h105.m1 hE
 replace h106 := h106.m1 hE
 have h108 := hF; clear hE hF
 exact eA T hS hO (fun c h => bu kr h) (fun c h => bw (l := [(i1, 901), (i2, 902)]) h) (bq [(i1, 901), (i2, 902)]) rfl (r := [.slice a102 y101.length c103]) kr (fun X' hM hC => ⟨y101, hm, a102, c103, rfl, h108.m0 hM, ((hS.cell (id := 901) (t := 25) (cs := [Sl a2 cap1.ae c2, Sl a3 cap1.aj c3]) kr).out (f := (bq [(i1, 901), (i2, 902)])) hC kr kr (hP.at 0 rfl)), ((hS.cell (id := 902) (t := 3) (cs := [I cap2]) kr).out (f := (bq [(i1, 901), (i2, 902)])) hC kr kr (hP.at 1 rfl))⟩)
theorem C34_35 (k35 : S35) (v : ∀ (l_ : List al) (cap1 : ak) (cap2 : Int), nm l_ cap1 cap2 -> VC34_35 l_ cap1 cap2 (fun r => r = bp l_ cap1 cap2)) : S34_35 := by
 intro w X l_ cap1 cap2 a1 c1 a2 c2 a3 c3  b1 i1 b2 i2 hp h1 h2 h3 hc1 hc2 hA
 refine (W34_35 k35 w X l_ cap1 cap2 a1 c1 a2 c2 a3 c3  b1 i1 b2 i2 _ (v l_ cap1 cap2 hp) h1 h2 h3 hc1 hc2 hA).mono ?_
 rintro _ _ _ _ ⟨r, rfl, h⟩
 exact h
theorem W11 (k27 : S27) (k34_35 : S34_35) (k36 : S36) (k6 : S6) (w0) (X0) (h_ : ak) (k_ : Int) (a1) (c1) (a2) (c2) (Q : dq -> Prop) (hm : VC11 h_ k_ Q) (h1 : RS aE w0 X0 a1 h_.ae c1) (h2 : RS aK w0 X0 a2 h_.aj c2) :
  Ret Try.prog 11 #[.agg #[.slice a1 h_.ae.length c1, .slice a2 h_.aj.length c2], .int .i64 k_] aF w0 X0 (fun w X' v => ∃ r, Q r /\ ∃ ra1 rc1 ra2 rc2, v = .agg #[.int .i64 r.ar.ao, .int .i64 r.ar.av, .int .i64 r.ar.aC, .slice ra1 r.ar.Rows.length rc1, .slice ra2 r.aj.length rc2] /\ RS aw w X' ra1 r.ar.Rows rc1 /\ RS az w X' ra2 r.aj rc2) := by
 unfold VC11 at hm
 replace hm := hm (h1.sm kr)
 replace hm := hm (h2.sm kr)
 refine enter Try.func11 rfl (vals := [.agg #[.slice a1 h_.ae.length c1, .slice a2 h_.aj.length c2], .int .i64 k_]) kr ?_
 intro Z a hS hO hM
 replace h1 := h1.m0 hM
 replace h2 := h2.m0 hM
 refine rM T hS ⟨[(2, Pt 3 0), (3, Pt 4 0), (4, Pt 5 0)], [(3, (25, [Sl a1 h_.ae c1, Sl a2 h_.aj c2])), (4, (3, [I k_])), (5, (45, [I 0, I 0, I 0, V (.slice none 0 0), V (.slice none 0 0)]))]⟩ fun Z a w142 X143 hS hE hr => ?_
 replace hO := hO.m2 hE
 replace h1 := h1.m1 hE
 replace h2 := h2.m1 hE
 clear hE hr
 refine ba ?_
 refine bb ?_
 refine oPb T hS 1 [(2, Pt 3 0), (3, Pt 4 0), (4, Pt 5 0), (10, V (.agg #[.slice a1 h_.ae.length c1, .slice a2 h_.aj.length c2]))] fun a hS => ?_
 obtain ⟨hq, hm⟩ := hm
 refine op1 (call hS kr kr hb6 kr (fun _ _ => rfl) (k6 _ _ h_ a1 c1 a2 c2 hq h1 h2) ?_)
 intro v101 a w102 X103 hE hp hS
 replace hO := hO.m2 hE
 replace h1 := h1.m1 hE
 replace h2 := h2.m1 hE
 obtain ⟨r104, hr⟩ : ∃ r, aV h_ = r := ⟨_, rfl⟩
 replace hm := hm r104 hr
 rw [hr] at hp
 clear hr
 subst hp
 refine ePb T hS [(2, Pt 3 0), (3, Pt 4 0), (4, Pt 5 0), (6, I r104.2)] fun a hS => ?_
 refine rPb T hS [(2, Pt 3 0), (3, Pt 4 0), (4, Pt 5 0), (26, B (((r104.2 != 0) || (decide (k_ < 0))) || (decide (k_ ≥ (lN h_.ae)))))] (sp := [16, 20]) fun a hS => ?_
 refine aG hS (b := (((r104.2 != 0) || (decide (k_ < 0))) || (decide (k_ ≥ (lN h_.ae))))) kr (fun hb => ?_) fun hb => ?_
 ·replace hm := hm.1 hb
  refine rM T hS ⟨[(4, Pt 5 0)], [(5, (45, [I 0, I 0, I 0, V (.slice none 0 0), V (.slice none 0 0)]))]⟩ fun Z a w105 X106 hS hE hr => ?_
  replace hO := hO.m2 hE
  clear hE hr
  refine aU ?_
  exact fin T hS hO (fun c => c) rfl (r := [.agg #[.int .i64 0, .int .i64 0, .int .i64 0, .slice none 0 0, .slice none 0 0]]) kr (fun X' hM hC => ⟨(⟨(⟨0, 0, 0, []⟩ : ai), []⟩ : dq), hm, none, 0, none, 0, rfl, RS.empty _ _ _, RS.empty _ _ _⟩)
 replace hm := hm.2 hb
 refine aJ ?_
 refine bb ?_
 refine oPb T hS 1 [(2, Pt 3 0), (3, Pt 4 0), (4, Pt 5 0), (28, V (.agg #[.slice a1 h_.ae.length c1, .slice a2 h_.aj.length c2]))] fun a hS => ?_
 obtain ⟨hq, hm⟩ := hm
 refine op1 (call hS kr kr hb27 kr (fun _ _ => rfl) (k27 _ _ h_ a1 c1 a2 c2 hq h1 h2) ?_)
 intro v107 a w108 X109 hE hp hS
 replace hO := hO.m2 hE
 replace h1 := h1.m1 hE
 replace h2 := h2.m1 hE
 obtain ⟨a111, c112, hp, h113⟩ := hp
 obtain ⟨r110, hr⟩ : ∃ r, bK h_ = r := ⟨_, rfl⟩
 replace hm := hm r110 hr
 rw [hr] at hp h113
 clear hr
 subst hp
 replace hm := hm (h113.sm kr)
 refine oPb T hS 1 [(2, Pt 3 0), (3, Pt 4 0), (4, Pt 5 0), (29, Sl a111 r110 c112), (30, .f (.func 35) [] [.p 3 0, .p 4 0])] fun a hS => ?_
 obtain ⟨hq, hm⟩ := hm
 refine op1 (gH hS kr kr hb34 kr (k34_35 _ _ r110 h_ k_ a111 c112 a1 c1 a2 c2 (Z 3) 3 (Z 4) 4 hq h113 h1 h2 (hS.cell (id := 3) (t := 25) (cs := [Sl a1 h_.ae c1, Sl a2 h_.aj c2]) kr) (hS.cell (id := 4) (t := 3) (cs := [I k_]) kr) ⟨by decide, by decide⟩) ?_)
 intro v114 a w115 X116 hE hp hS
 replace hO := hO.m2 hE
 replace h1 := h1.m1 hE
 replace h2 := h2.m1 hE
 replace h113 := h113.m1 hE
 obtain ⟨a118, c119, hp, h120, hc121, hc122⟩ := hp
 obtain ⟨r117, hr⟩ : ∃ r, bp r110 h_ k_ = r := ⟨_, rfl⟩
 replace hm := hm r117 hr
 rw [hr] at hp h120
 clear hr
 subst hp
 replace hm := hm (h120.sm kr)
 replace hS := hS.bQ (id := 3) (t := 25) (cs := [Sl a1 h_.ae c1, Sl a2 h_.aj c2]) kr hc121
 replace hS := hS.bQ (id := 4) (t := 3) (cs := [I k_]) kr hc122
 clear hc121 hc122
 refine ePb T hS [(2, Pt 3 0), (3, Pt 4 0), (4, Pt 5 0), (7, Sl a118 r117 c119)] fun a hS => ?_
 refine bb ?_
 refine oP T hS 3 ⟨[(4, Pt 5 0), (7, Sl a118 r117 c119), (33, Sl a1 h_.ae c1), (34, I k_)], [(5, (45, [I 0, I 0, I 0, V (.slice none 0 0), V (.slice none 0 0)]))]⟩ fun a hS => ?_
 obtain ⟨hq, hm⟩ := hm
 refine op1 (index (e := 42) (k := .i64) T hS kr kr kr kr h1 kr kr hq.1 hq.2 ?_)
 intro A123 a h124 hS
 refine op1 (di T hS kr kr kr h124 kr kr ?_)
 intro v125 a hv hS
 obtain ⟨a126, c127, hv, h128⟩ := hv
 subst hv
 replace hm := hm (h128.sm kr)
 refine eM T hS ⟨[(4, Pt 5 0), (7, Sl a118 r117 c119), (8, Pt 9 0)], [(5, (45, [I 0, I 0, I 0, V (.slice none 0 0), V (.slice none 0 0)])), (9, (42, (cO (gi h_.ae k_) a126 c127)))]⟩ fun Z a w140 X141 hS hE hr => ?_
 replace hO := hO.m2 hE
 replace h120 := h120.m1 hE
 replace h128 := h128.m1 hE
 clear hE hr
 refine bb ?_
 refine oPb T hS 2 [(4, Pt 5 0), (7, Sl a118 r117 c119), (8, Pt 9 0), (38, Sl a126 ((gi h_.ae k_).Rows) c127)] fun a hS => ?_
 obtain ⟨hq, hm⟩ := hm
 refine op1 (call hS kr kr hb36 kr (fun _ _ => rfl) (k36 _ _ ((gi h_.ae k_).Rows) a126 c127 hq h128) ?_)
 intro v129 a w130 X131 hE hp hS
 replace hO := hO.m2 hE
 replace h120 := h120.m1 hE
 replace h128 := h128.m1 hE
 obtain ⟨a133, c134, hp, h135⟩ := hp
 obtain ⟨r132, hr⟩ : ∃ r, bZ ((gi h_.ae k_).Rows) = r := ⟨_, rfl⟩
 replace hm := hm r132 hr
 rw [hr] at hp h135
 clear hr
 subst hp
 replace hm := hm (h135.sm kr)
 refine eM T hS ⟨[(4, Pt 5 0), (7, Sl a118 r117 c119), (8, Pt 9 0)], [(5, (45, [I 0, I 0, I 0, V (.slice none 0 0), V (.slice none 0 0)])), (9, (42, [I ((gi h_.ae k_).ao), I ((gi h_.ae k_).av), I ((gi h_.ae k_).aC), Sl a133 r132 c134]))]⟩ fun Z a w138 X139 hS hE hr => ?_
 replace hO := hO.m2 hE
 replace h120 := h120.m1 hE
 replace h135 := h135.m1 hE
 clear hE hr
 refine rM T hS ⟨[(4, Pt 5 0)], [(5, (45, [I ((gi h_.ae k_).ao), I ((gi h_.ae k_).av), I ((gi h_.ae k_).aC), Sl a133 r132 c134, Sl a118 r117 c119]))]⟩ fun Z a w136 X137 hS hE hr => ?_
 replace hO := hO.m2 hE
 replace h120 := h120.m1 hE
 replace h135 := h135.m1 hE
 clear hE hr
 refine aU ?_
 exact fin T hS hO (fun c => c) rfl (r := [.agg #[.int .i64 ((gi h_.ae k_).ao), .int .i64 ((gi h_.ae k_).av), .int .i64 ((gi h_.ae k_).aC), .slice a133 r132.length c134, .slice a118 r117.length c119]]) kr (fun X' hM hC => ⟨(⟨(⟨(gi h_.ae k_).ao, (gi h_.ae k_).av, (gi h_.ae k_).aC, r132⟩ : ai), r117⟩ : dq), hm, a133, c134, a118, c119, rfl, h135.m0 hM, h120.m0 hM⟩)
theorem C11 (k27 : S27) (k34_35 : S34_35) (k36 : S36) (k6 : S6) (v : ∀ (h_ : ak) (k_ : Int), lX h_ k_ -> VC11 h_ k_ (fun r => r = cd h_ k_)) : S11 := by
 intro w X h_ k_ a1 c1 a2 c2   hp h1 h2
 refine (W11 k27 k34_35 k36 k6 w X h_ k_ a1 c1 a2 c2   _ (v h_ k_ hp) h1 h2).mono ?_
 rintro _ _ _ _ ⟨r, rfl, h⟩
 exact h
theorem W12 (k7 : S7) (w0) (X0) (objects : List ai) (l_ : List aD) (k_ : Int) (a1) (c1) (a2) (c2) (Q : (List al) × Bool -> Prop) (hm : VC12 objects l_ k_ Q) (h1 : RS aE w0 X0 a1 objects c1) (h2 : RS bj w0 X0 a2 l_ c2) :
  Ret Try.prog 12 #[.slice a1 objects.length c1, .slice a2 l_.length c2, .int .i64 k_] aF w0 X0 (fun w X' v => ∃ r, Q r /\ ∃ ra1 rc1, v = .tuple #[.slice ra1 r.1.length rc1, .bool r.2] /\ RS az w X' ra1 r.1 rc1) := by
 unfold VC12 at hm
 replace hm := hm (h1.sm kr)
 replace hm := hm (h2.sm kr)
 refine enter Try.func12 rfl (vals := [.slice a1 objects.length c1, .slice a2 l_.length c2, .int .i64 k_]) kr ?_
 intro Z a hS hO hM
 replace h1 := h1.m0 hM
 replace h2 := h2.m0 hM
 refine rPb T hS [(0, Sl a1 objects c1), (1, Sl a2 l_ c2), (2, I k_)] fun a hS => ?_
 refine bb ?_
 refine oPb T hS 2 [(0, Sl a1 objects c1), (1, Sl a2 l_ c2), (2, I k_), (13, Sl a1 objects c1), (14, Sl a2 l_ c2)] fun a hS => ?_
 obtain ⟨hq, hm⟩ := hm
 refine op1 (call hS kr kr hb7 kr (fun _ _ => rfl) (k7 _ _ objects l_ a1 c1 a2 c2 hq h1 h2) ?_)
 intro v101 a w102 X103 hE hp hS
 replace hO := hO.m2 hE
 replace h1 := h1.m1 hE
 replace h2 := h2.m1 hE
 obtain ⟨r104, hr⟩ : ∃ r, cl objects l_ = r := ⟨_, rfl⟩
 replace hm := hm r104 hr
 rw [hr] at hp
 clear hr
 subst hp
 refine ePb T hS [(0, Sl a1 objects c1), (1, Sl a2 l_ c2), (2, I k_), (9, I r104.2)] fun a hS => ?_
 refine ba ?_
 refine rPb T hS [(1, Sl a2 l_ c2), (2, I k_), (29, B (((r104.2 != 0) || (decide (k_ < 0))) || (decide (k_ ≥ (lN objects)))))] (sp := [20, 24]) fun a hS => ?_
 refine aG hS (b := (((r104.2 != 0) || (decide (k_ < 0))) || (decide (k_ ≥ (lN objects))))) kr (fun hb => ?_) fun hb => ?_
 ·replace hm := hm.1 hb
  refine rPb T hS [(6, V (.slice none 0 0)), (7, B false)] fun a hS => ?_
  refine aU ?_
  exact fin T hS hO (fun c => c) rfl (r := [.slice none 0 0, .bool false]) kr (fun X' hM hC => ⟨([], false), hm, none, 0, rfl, RS.empty _ _ _⟩)
 replace hm := hm.2 hb
 refine aJ ?_
 refine rPb T hS [(1, Sl a2 l_ c2), (2, I k_), (10, V (.slice none 0 0))] fun a hS => ?_
 refine bU (fun a w => ∃ (Z : Nat -> Nat) (X : Nat -> Nat) (y105 : List al) (a106 : Option Addr) (c107 : Nat), VC12_J1 Q y105 /\ St Try.f12.ntmps ⟨[(10, Sl a106 y105 c107)], []⟩ Z a w X /\ Old w0 X0 w X /\ OS az 62 w X 1007 a106 y105 c107) ?_ ?_
 ·refine rPb T hS [(1, Sl a2 l_ c2), (2, I k_), (10, V (.slice none 0 0)), (11, I 0)] fun a hS => ?_
  refine aO ?_
  obtain ⟨I1, μ1, hm0, hm⟩ := hm
  refine b8 (σ := (List al) × Int) (fun s a w => ∃ Z X a113 c114, I1 s.1 s.2 /\ St Try.f12.ntmps ⟨[(1, Sl a2 l_ c2), (2, I k_), (10, Sl a113 s.1 c114), (11, I s.2)], []⟩ Z a w X /\ Old w0 X0 w X /\ RS bj w X a2 l_ c2 /\ OS az 62 w X 1007 a113 s.1 c114) (fun s => μ1 s.1 s.2) (⟨[], 0⟩) ?_ ?_
  ·exact ⟨Z, _, none, 0, hm0, hS.sl _, hO, h2, (OS.nil _ _ _ _ _)⟩
  rintro ⟨y112, y116⟩ a w144 ⟨Z, X143, a113, c114, hI, hS, hO, h111, h115⟩
  replace hm := hm y112 y116 hI
  clear hI hm0
  refine ba ?_
  refine rPb T hS [(1, Sl a2 l_ c2), (2, I k_), (10, Sl a113 y112 c114), (11, I y116), (33, B (decide (y116 < (lN l_))))] fun a hS => ?_
  refine aG hS (b := decide (y116 < (lN l_))) kr (fun hb => ?_) fun hb => ?_
  ·replace hm := hm.1 hb
   refine aJ ?_
   refine bU (fun a w => ∃ (Z : Nat -> Nat) (X : Nat -> Nat) (y118 : List al) (a119 : Option Addr) (c120 : Nat), VC12_J2 I1 μ1 y112 y116 y118 /\ St Try.f12.ntmps ⟨[(1, Sl a2 l_ c2), (2, I k_), (10, Sl a119 y118 c120), (11, I y116)], []⟩ Z a w X /\ Old w0 X0 w X /\ RS bj w X a2 l_ c2 /\ OS az 62 w X 1007 a119 y118 c120) ?_ ?_
   ·refine aO ?_
    refine bb ?_
    refine oPb T hS 2 [(1, Sl a2 l_ c2), (2, I k_), (10, Sl a113 y112 c114), (11, I y116), (36, Sl a2 l_ c2), (37, I y116)] fun a hS => ?_
    obtain ⟨hq, hm⟩ := hm
    refine op1 (index (e := 75) (k := .i64) T hS kr kr kr kr h111 kr kr hq.1 hq.2 ?_)
    intro A122 a h123 hS
    refine op1 (fa (off := 0) (fsz := 1) (ft := 3) (TF := tI) (y := (gi l_ y116).ar) T hS kr kr kr h123 kr kr kr (fun cs h => fT h) ?_)
    intro A124 a h125 hS
    refine op1 (ec T hS kr kr kr h125 rfl kr ?_)
    intro v126 a hv hS
    cases hv
    refine ePb T hS [(1, Sl a2 l_ c2), (2, I k_), (10, Sl a113 y112 c114), (11, I y116), (42, B (((gi l_ y116).ar) == k_))] fun a hS => ?_
    refine aG hS (b := (((gi l_ y116).ar) == k_)) kr (fun hb => ?_) fun hb => ?_
    ·replace hm := hm.1 hb
     refine region ?_
     refine oPb T hS 3 [(1, Sl a2 l_ c2), (2, I k_), (10, Sl a113 y112 c114), (11, I y116), (43, Sl a113 y112 c114), (44, Sl a2 l_ c2), (45, I y116)] fun a hS => ?_
     obtain ⟨hq, hm⟩ := hm
     refine op1 (index (e := 75) (k := .i64) T hS kr kr kr kr h111 kr kr hq.1 hq.2 ?_)
     intro A127 a h128 hS
     refine op1 (fa (off := 1) (fsz := 3) (ft := 62) (TF := az) (y := (gi l_ y116).aH) T hS kr kr kr h128 kr kr kr (fun cs h => fb h) ?_)
     intro A129 a h130 hS
     refine op1 (di T hS kr kr kr h130 kr kr ?_)
     intro v131 a hv hS
     subst hv
     refine op1 (lit (E := 62) (col := 0) (T := az) (vals := [.agg #[.int .i64 (((gi l_ y116).aH).aY), .int .i64 (((gi l_ y116).aH).ab), .int .i64 (((gi l_ y116).aH).N)]]) (ys := [(gi l_ y116).aH]) T hS kr kr kr kr (by exact ⟨rfl, trivial⟩) rfl kr kr kr kr ?_)
     intro b132 a w133 X134 hE h135 hN hS
     clear hN
     replace hO := hO.m2 hE
     replace h111 := h111.m1 hE
     replace h115 := h115.m2 hE
     replace h128 := h128.m1 hE
     replace h130 := h130.m1 hE
     replace h135 := h135.rs0
     obtain ⟨hq, hm⟩ := hm
     obtain ⟨news, hN⟩ := h135.src
     refine op1 (append (E := 62) (T := az) (col := 1007) (xs := y112) T hS kr kr kr kr h115 hN kr kr kr kr hq ?_)
     intro a139 c140 a w136 X137 hE h138 hS
     clear hq hN
     clear h115
     replace hO := hO.m2 hE
     replace h111 := h111.m1 hE
     replace h128 := h128.m1 hE
     replace h130 := h130.m1 hE
     replace h135 := h135.m1 hE
     refine ePb T hS [(1, Sl a2 l_ c2), (2, I k_), (10, Sl a139 (y112 ++ [(gi l_ y116).aH]) c140), (11, I y116)] fun a hS => ?_
     exact ⟨Z, _, y112 ++ [(gi l_ y116).aH], a139, c140, hm, hS.sl _, hO, h111, h138⟩
    replace hm := hm.2 hb
    refine aJ ?_
    exact ⟨Z, _, y112, a113, c114, hm, hS.sl _, hO, h111, h115⟩
   rintro a w142 ⟨Z, X141, y118, a119, c120, hm, hS, hO, h117, h121⟩
   unfold VC12_J2 at hm
   refine region (ePb T hS [(1, Sl a2 l_ c2), (2, I k_), (10, Sl a119 y118 c120), (11, I (wR (y116 + 1)))] fun a hS => ?_)
   exact ⟨⟨y118, wR (y116 + 1)⟩, ⟨Z, _, a119, c120, hm.1, hS.sl _, hO, h117, h121⟩, hm.2⟩
  replace hm := hm.2 hb
  refine b0 (by rfl) ?_
  exact ⟨Z, _, y112, a113, c114, hm, hS.sl _, hO, h115⟩
 rintro a w146 ⟨Z, X145, y105, a106, c107, hm, hS, hO, h108⟩
 unfold VC12_J1 at hm
 refine rPb T hS [(6, Sl a106 y105 c107), (7, B true)] fun a hS => ?_
 refine aU ?_
 obtain ⟨X109, hE, hF⟩ := h108.freeze (by decide)
 replace hS := hS.ev hE (bW kr)
 replace hO := hO.m2 hE
 have h110 := hF; clear hE hF
 exact fin T hS hO (fun c => c) rfl (r := [.slice a106 y105.length c107, .bool true]) kr (fun X' hM hC => ⟨(y105, true), hm, a106, c107, rfl, h110.m0 hM⟩)
theorem C12 (k7 : S7) (v : ∀ (objects : List ai) (l_ : List aD) (k_ : Int), jD objects l_ k_ -> VC12 objects l_ k_ (fun r => r = dv objects l_ k_)) : S12 := by
 intro w X objects l_ k_ a1 c1 a2 c2   hp h1 h2
 refine (W12 k7 w X objects l_ k_ a1 c1 a2 c2   _ (v objects l_ k_ hp) h1 h2).mono ?_
 rintro _ _ _ _ ⟨r, rfl, h⟩
 exact h
theorem W9 (k27 : S27) (k32 : S32) (k6 : S6) (w0) (X0) (h_ : ak) (a1) (c1) (a2) (c2) (Q : (List aa) × (List Int) -> Prop) (hm : VC9 h_ Q) (h1 : RS aE w0 X0 a1 h_.ae c1) (h2 : RS aK w0 X0 a2 h_.aj c2) :
  Ret Try.prog 9 #[.agg #[.slice a1 h_.ae.length c1, .slice a2 h_.aj.length c2]] aF w0 X0 (fun w X' v => ∃ r, Q r /\ ∃ ra1 rc1 ra2 rc2, v = .tuple #[.slice ra1 r.1.length rc1, .slice ra2 r.2.length rc2] /\ RS aq w X' ra1 r.1 rc1 /\ RS tI w X' ra2 r.2 rc2) := by
 unfold VC9 at hm
 replace hm := hm (h1.sm kr)
 replace hm := hm (h2.sm kr)
 refine enter Try.func9 rfl (vals := [.agg #[.slice a1 h_.ae.length c1, .slice a2 h_.aj.length c2]]) kr ?_
 intro Z a hS hO hM
 replace h1 := h1.m0 hM
 replace h2 := h2.m0 hM
 refine rM T hS ⟨[(1, Pt 2 0)], [(2, (25, [Sl a1 h_.ae c1, Sl a2 h_.aj c2]))]⟩ fun Z a w158 X159 hS hE hr => ?_
 replace hO := hO.m2 hE
 replace h1 := h1.m1 hE
 replace h2 := h2.m1 hE
 clear hE hr
 refine ba ?_
 refine bb ?_
 refine oPb T hS 1 [(1, Pt 2 0), (12, V (.agg #[.slice a1 h_.ae.length c1, .slice a2 h_.aj.length c2]))] fun a hS => ?_
 obtain ⟨hq, hm⟩ := hm
 refine op1 (call hS kr kr hb6 kr (fun _ _ => rfl) (k6 _ _ h_ a1 c1 a2 c2 hq h1 h2) ?_)
 intro v101 a w102 X103 hE hp hS
 replace hO := hO.m2 hE
 replace h1 := h1.m1 hE
 replace h2 := h2.m1 hE
 obtain ⟨r104, hr⟩ : ∃ r, aV h_ = r := ⟨_, rfl⟩
 replace hm := hm r104 hr
 rw [hr] at hp
 clear hr
 subst hp
 refine ePb T hS [(1, Pt 2 0), (5, I r104.2)] fun a hS => ?_
 refine rPb T hS [(1, Pt 2 0), (17, B (r104.2 != 0))] fun a hS => ?_
 refine aG hS (b := (r104.2 != 0)) kr (fun hb => ?_) fun hb => ?_
 ·replace hm := hm.1 hb
  refine rP T hS ⟨[(2, V (.slice none 0 0)), (3, V (.slice none 0 0))], []⟩ fun a hS => ?_
  refine aU ?_
  exact fin T hS hO (fun c => c) rfl (r := [.slice none 0 0, .slice none 0 0]) kr (fun X' hM hC => ⟨([], []), hm, none, 0, none, 0, rfl, RS.empty _ _ _, RS.empty _ _ _⟩)
 replace hm := hm.2 hb
 refine aJ ?_
 refine bb ?_
 refine oPb T hS 1 [(1, Pt 2 0), (19, V (.agg #[.slice a1 h_.ae.length c1, .slice a2 h_.aj.length c2]))] fun a hS => ?_
 obtain ⟨hq, hm⟩ := hm
 refine op1 (call hS kr kr hb27 kr (fun _ _ => rfl) (k27 _ _ h_ a1 c1 a2 c2 hq h1 h2) ?_)
 intro v105 a w106 X107 hE hp hS
 replace hO := hO.m2 hE
 replace h1 := h1.m1 hE
 replace h2 := h2.m1 hE
 obtain ⟨a109, c110, hp, h111⟩ := hp
 obtain ⟨r108, hr⟩ : ∃ r, bK h_ = r := ⟨_, rfl⟩
 replace hm := hm r108 hr
 rw [hr] at hp h111
 clear hr
 subst hp
 replace hm := hm (h111.sm kr)
 refine op1 (call hS kr kr hb32 kr (fun _ _ => rfl) (k32 _ _ r108 a109 c110 h111) ?_)
 intro v112 a w113 X114 hE hp hS
 replace hO := hO.m2 hE
 replace h1 := h1.m1 hE
 replace h2 := h2.m1 hE
 replace h111 := h111.m1 hE
 obtain ⟨a116, c117, hp, h118⟩ := hp
 obtain ⟨r115, hr⟩ : ∃ r, eu r108 = r := ⟨_, rfl⟩
 replace hm := hm r115 hr
 rw [hr] at hp h118
 clear hr
 subst hp
 replace hm := hm (h118.sm kr)
 refine ePb T hS [(1, Pt 2 0), (6, Sl a116 r115.1 c117)] fun a hS => ?_
 refine rPb T hS [(1, Pt 2 0), (6, Sl a116 r115.1 c117), (8, V (.slice none 0 0))] fun a hS => ?_
 refine bU (fun a w => ∃ (Z : Nat -> Nat) (X : Nat -> Nat) (y120 : List Int) (a121 : Option Addr) (c122 : Nat), VC9_J1 Q r115 y120 /\ St Try.f9.ntmps ⟨[(6, Sl a116 r115.1 c117), (8, Sl a121 y120 c122)], []⟩ Z a w X /\ Old w0 X0 w X /\ RS aq w X a116 r115.1 c117 /\ OS tI 3 w X 1004 a121 y120 c122) ?_ ?_
 ·refine rPb T hS [(1, Pt 2 0), (6, Sl a116 r115.1 c117), (8, V (.slice none 0 0)), (24, Sl a116 r115.1 c117), (25, I (lN r115.1)), (26, I 0)] fun a hS => ?_
  refine aO ?_
  obtain ⟨I1, μ1, hm0, hm⟩ := hm
  refine b8 (σ := (List Int) × Int) (fun s a w => ∃ Z X a128 c129, I1 s.1 s.2 /\ St Try.f9.ntmps ⟨[(1, Pt 2 0), (6, Sl a116 r115.1 c117), (8, Sl a128 s.1 c129), (24, Sl a116 r115.1 c117), (25, I (lN r115.1)), (26, I s.2)], [(2, (25, [Sl a1 h_.ae c1, Sl a2 h_.aj c2]))]⟩ Z a w X /\ Old w0 X0 w X /\ RS aq w X a116 r115.1 c117 /\ OS tI 3 w X 1004 a128 s.1 c129 /\ RS aq w X a116 r115.1 c117 /\ RS aE w X a1 h_.ae c1 /\ RS aK w X a2 h_.aj c2) (fun s => μ1 s.1 s.2) (⟨[], 0⟩) ?_ ?_
  ·exact ⟨Z, _, none, 0, hm0, hS.sl _, hO, h118, (OS.nil _ _ _ _ _), h118, h1, h2⟩
  rintro ⟨y127, y132⟩ a w155 ⟨Z, X154, a128, c129, hI, hS, hO, h126, h130, h131, h133, h134⟩
  replace hm := hm y127 y132 hI
  clear hI hm0
  refine rPb T hS [(1, Pt 2 0), (6, Sl a116 r115.1 c117), (8, Sl a128 y127 c129), (24, Sl a116 r115.1 c117), (25, I (lN r115.1)), (26, I y132), (27, B (decide (y132 < (lN r115.1))))] fun a hS => ?_
  refine ba ?_
  refine aG hS (b := decide (y132 < (lN r115.1))) kr (fun hb => ?_) fun hb => ?_
  ·replace hm := hm.1 hb
   refine aJ (ba ?_)
   refine aO ?_
   refine bb ?_
   obtain ⟨hq, hm⟩ := hm
   refine op1 (index (e := 80) (k := .i64) T hS kr kr kr kr h131 kr kr hq.1 hq.2 ?_)
   intro A135 a h136 hS
   refine op1 (di T hS kr kr kr h136 kr kr ?_)
   intro v137 a hv hS
   subst hv
   refine eM T hS ⟨[(1, Pt 2 0), (6, Sl a116 r115.1 c117), (8, Sl a128 y127 c129), (10, Pt 11 0), (24, Sl a116 r115.1 c117), (25, I (lN r115.1)), (26, I y132)], [(2, (25, [Sl a1 h_.ae c1, Sl a2 h_.aj c2])), (11, (80, (cP (gi r115.1 y132))))]⟩ fun Z a w152 X153 hS hE hr => ?_
   replace hO := hO.m2 hE
   replace h126 := h126.m1 hE
   replace h130 := h130.m2 hE
   replace h131 := h131.m1 hE
   replace h133 := h133.m1 hE
   replace h134 := h134.m1 hE
   clear hE hr
   refine region ?_
   refine oP T hS 5 ⟨[(1, Pt 2 0), (6, Sl a116 r115.1 c117), (8, Sl a128 y127 c129), (24, Sl a116 r115.1 c117), (25, I (lN r115.1)), (26, I y132), (30, Sl a128 y127 c129), (32, Sl a2 h_.aj c2), (34, I ((gi r115.1 y132).aA))], [(2, (25, [Sl a1 h_.ae c1, Sl a2 h_.aj c2]))]⟩ fun a hS => ?_
   obtain ⟨hq, hm⟩ := hm
   refine op1 (index (e := 64) (k := .i64) T hS kr kr kr kr h134 kr kr hq.1 hq.2 ?_)
   intro A138 a h139 hS
   refine op1 (fa (off := 0) (fsz := 1) (ft := 3) (TF := tI) (y := (gi h_.aj ((gi r115.1 y132).aA)).ar) T hS kr kr kr h139 kr kr kr (fun cs h => fU h) ?_)
   intro A140 a h141 hS
   refine op1 (ec T hS kr kr kr h141 rfl kr ?_)
   intro v142 a hv hS
   cases hv
   refine op1 (lit (E := 3) (col := 0) (T := tI) (vals := [.int .i64 ((gi h_.aj ((gi r115.1 y132).aA)).ar)]) (ys := [(gi h_.aj ((gi r115.1 y132).aA)).ar]) T hS kr kr kr kr (by exact ⟨rfl, trivial⟩) rfl kr kr kr kr ?_)
   intro b143 a w144 X145 hE h146 hN hS
   clear hN
   replace hO := hO.m2 hE
   replace h126 := h126.m1 hE
   replace h130 := h130.m2 hE
   replace h131 := h131.m1 hE
   replace h133 := h133.m1 hE
   replace h134 := h134.m1 hE
   replace h139 := h139.m1 hE
   replace h141 := h141.m1 hE
   replace h146 := h146.rs0
   obtain ⟨hq, hm⟩ := hm
   obtain ⟨news, hN⟩ := h146.src
   refine op1 (append (E := 3) (T := tI) (col := 1004) (xs := y127) T hS kr kr kr kr h130 hN kr kr kr kr hq ?_)
   intro a150 c151 a w147 X148 hE h149 hS
   clear hq hN
   clear h130
   replace hO := hO.m2 hE
   replace h126 := h126.m1 hE
   replace h131 := h131.m1 hE
   replace h133 := h133.m1 hE
   replace h134 := h134.m1 hE
   replace h139 := h139.m1 hE
   replace h141 := h141.m1 hE
   replace h146 := h146.m1 hE
   refine ePb T hS [(1, Pt 2 0), (6, Sl a116 r115.1 c117), (8, Sl a150 (y127 ++ [(gi h_.aj ((gi r115.1 y132).aA)).ar]) c151), (24, Sl a116 r115.1 c117), (25, I (lN r115.1)), (26, I y132)] fun a hS => ?_
   refine region (ePb T hS [(1, Pt 2 0), (6, Sl a116 r115.1 c117), (8, Sl a150 (y127 ++ [(gi h_.aj ((gi r115.1 y132).aA)).ar]) c151), (24, Sl a116 r115.1 c117), (25, I (lN r115.1)), (26, I (wR (y132 + 1)))] fun a hS => ?_)
   exact ⟨⟨y127 ++ [(gi h_.aj ((gi r115.1 y132).aA)).ar], wR (y132 + 1)⟩, ⟨Z, _, a150, c151, hm.1, hS.sl _, hO, h126, h149, h131, h133, h134⟩, hm.2⟩
  replace hm := hm.2 hb
  refine b0 (by rfl) ?_
  exact ⟨Z, _, y127, a128, c129, hm, hS.sl _, hO, h126, h130⟩
 rintro a w157 ⟨Z, X156, y120, a121, c122, hm, hS, hO, h119, h123⟩
 unfold VC9_J1 at hm
 refine rPb T hS [(2, Sl a116 r115.1 c117), (3, Sl a121 y120 c122)] fun a hS => ?_
 refine aU ?_
 obtain ⟨X124, hE, hF⟩ := h123.freeze (by decide)
 replace hS := hS.ev hE (bW kr)
 replace hO := hO.m2 hE
 replace h119 := h119.m1 hE
 have h125 := hF; clear hE hF
 exact fin T hS hO (fun c => c) rfl (r := [.slice a116 r115.1.length c117, .slice a121 y120.length c122]) kr (fun X' hM hC => ⟨(r115.1, y120), hm, a116, c117, a121, c122, rfl, h119.m0 hM, h125.m0 hM⟩)
theorem C9 (k27 : S27) (k32 : S32) (k6 : S6) (v : ∀ (h_ : ak), dS h_ -> VC9 h_ (fun r => r = bP h_)) : S9 := by
 intro w X h_ a1 c1 a2 c2   hp h1 h2
 refine (W9 k27 k32 k6 w X h_ a1 c1 a2 c2   _ (v h_ hp) h1 h2).mono ?_
 rintro _ _ _ _ ⟨r, rfl, h⟩
 exact h
theorem W10 (k30 : S30) (k33 : S33) (k7 : S7) (w0) (X0) (objects : List ai) (l_ : List aD) (a1) (c1) (a2) (c2) (Q : (List aa) × (List Int) -> Prop) (hm : VC10 objects l_ Q) (h1 : RS aE w0 X0 a1 objects c1) (h2 : RS bj w0 X0 a2 l_ c2) :
  Ret Try.prog 10 #[.slice a1 objects.length c1, .slice a2 l_.length c2] aF w0 X0 (fun w X' v => ∃ r, Q r /\ ∃ ra1 rc1 ra2 rc2, v = .tuple #[.slice ra1 r.1.length rc1, .slice ra2 r.2.length rc2] /\ RS aq w X' ra1 r.1 rc1 /\ RS tI w X' ra2 r.2 rc2) := by
 unfold VC10 at hm
 replace hm := hm (h1.sm kr)
 replace hm := hm (h2.sm kr)
 refine enter Try.func10 rfl (vals := [.slice a1 objects.length c1, .slice a2 l_.length c2]) kr ?_
 intro Z a hS hO hM
 replace h1 := h1.m0 hM
 replace h2 := h2.m0 hM
 refine rPb T hS [(0, Sl a1 objects c1), (1, Sl a2 l_ c2)] fun a hS => ?_
 refine bb ?_
 refine oPb T hS 2 [(1, Sl a2 l_ c2), (13, Sl a1 objects c1), (14, Sl a2 l_ c2)] fun a hS => ?_
 obtain ⟨hq, hm⟩ := hm
 refine op1 (call hS kr kr hb7 kr (fun _ _ => rfl) (k7 _ _ objects l_ a1 c1 a2 c2 hq h1 h2) ?_)
 intro v101 a w102 X103 hE hp hS
 replace hO := hO.m2 hE
 replace h1 := h1.m1 hE
 replace h2 := h2.m1 hE
 obtain ⟨r104, hr⟩ : ∃ r, cl objects l_ = r := ⟨_, rfl⟩
 replace hm := hm r104 hr
 rw [hr] at hp
 clear hr
 subst hp
 refine ePb T hS [(1, Sl a2 l_ c2), (7, I r104.2)] fun a hS => ?_
 refine ba ?_
 refine rPb T hS [(1, Sl a2 l_ c2), (19, B (r104.2 != 0))] fun a hS => ?_
 refine aG hS (b := (r104.2 != 0)) kr (fun hb => ?_) fun hb => ?_
 ·replace hm := hm.1 hb
  refine rPb T hS [(4, V (.slice none 0 0)), (5, V (.slice none 0 0))] fun a hS => ?_
  refine aU ?_
  exact fin T hS hO (fun c => c) rfl (r := [.slice none 0 0, .slice none 0 0]) kr (fun X' hM hC => ⟨([], []), hm, none, 0, none, 0, rfl, RS.empty _ _ _, RS.empty _ _ _⟩)
 replace hm := hm.2 hb
 refine aJ ?_
 refine bb ?_
 refine oPb T hS 1 [(1, Sl a2 l_ c2), (21, Sl a2 l_ c2)] fun a hS => ?_
 obtain ⟨hq, hm⟩ := hm
 refine op1 (call hS kr kr hb30 kr (fun _ _ => rfl) (k30 _ _ l_ a2 c2 hq h2) ?_)
 intro v105 a w106 X107 hE hp hS
 replace hO := hO.m2 hE
 replace h2 := h2.m1 hE
 obtain ⟨a109, c110, hp, h111⟩ := hp
 obtain ⟨r108, hr⟩ : ∃ r, bS l_ = r := ⟨_, rfl⟩
 replace hm := hm r108 hr
 rw [hr] at hp h111
 clear hr
 subst hp
 replace hm := hm (h111.sm kr)
 refine op1 (call hS kr kr hb33 kr (fun _ _ => rfl) (k33 _ _ r108 a109 c110 h111) ?_)
 intro v112 a w113 X114 hE hp hS
 replace hO := hO.m2 hE
 replace h2 := h2.m1 hE
 replace h111 := h111.m1 hE
 obtain ⟨a116, c117, hp, h118⟩ := hp
 obtain ⟨r115, hr⟩ : ∃ r, e6 r108 = r := ⟨_, rfl⟩
 replace hm := hm r115 hr
 rw [hr] at hp h118
 clear hr
 subst hp
 replace hm := hm (h118.sm kr)
 refine ePb T hS [(1, Sl a2 l_ c2), (8, Sl a116 r115.1 c117)] fun a hS => ?_
 refine rPb T hS [(1, Sl a2 l_ c2), (8, Sl a116 r115.1 c117), (10, V (.slice none 0 0))] fun a hS => ?_
 refine bU (fun a w => ∃ (Z : Nat -> Nat) (X : Nat -> Nat) (y120 : List Int) (a121 : Option Addr) (c122 : Nat), VC10_J1 Q r115 y120 /\ St Try.f10.ntmps ⟨[(8, Sl a116 r115.1 c117), (10, Sl a121 y120 c122)], []⟩ Z a w X /\ Old w0 X0 w X /\ RS aq w X a116 r115.1 c117 /\ OS tI 3 w X 1006 a121 y120 c122) ?_ ?_
 ·refine rPb T hS [(1, Sl a2 l_ c2), (8, Sl a116 r115.1 c117), (10, V (.slice none 0 0)), (11, I 0)] fun a hS => ?_
  refine aO ?_
  obtain ⟨I1, μ1, hm0, hm⟩ := hm
  refine b8 (σ := (List Int) × Int) (fun s a w => ∃ Z X a129 c130, I1 s.1 s.2 /\ St Try.f10.ntmps ⟨[(1, Sl a2 l_ c2), (8, Sl a116 r115.1 c117), (10, Sl a129 s.1 c130), (11, I s.2)], []⟩ Z a w X /\ Old w0 X0 w X /\ RS bj w X a2 l_ c2 /\ RS aq w X a116 r115.1 c117 /\ OS tI 3 w X 1006 a129 s.1 c130) (fun s => μ1 s.1 s.2) (⟨[], 0⟩) ?_ ?_
  ·exact ⟨Z, _, none, 0, hm0, hS.sl _, hO, h2, h118, (OS.nil _ _ _ _ _)⟩
  rintro ⟨y128, y132⟩ a w153 ⟨Z, X152, a129, c130, hI, hS, hO, h126, h127, h131⟩
  replace hm := hm y128 y132 hI
  clear hI hm0
  refine ba ?_
  refine rPb T hS [(1, Sl a2 l_ c2), (8, Sl a116 r115.1 c117), (10, Sl a129 y128 c130), (11, I y132), (29, B (decide (y132 < (lN r115.1))))] fun a hS => ?_
  refine aG hS (b := decide (y132 < (lN r115.1))) kr (fun hb => ?_) fun hb => ?_
  ·replace hm := hm.1 hb
   refine aJ (ba ?_)
   refine aO ?_
   refine region ?_
   refine oPb T hS 4 [(1, Sl a2 l_ c2), (8, Sl a116 r115.1 c117), (10, Sl a129 y128 c130), (11, I y132), (32, Sl a129 y128 c130), (33, Sl a2 l_ c2), (34, Sl a116 r115.1 c117), (35, I y132)] fun a hS => ?_
   obtain ⟨hq, hm⟩ := hm
   refine op1 (index (e := 80) (k := .i64) T hS kr kr kr kr h127 kr kr hq.1 hq.2 ?_)
   intro A133 a h134 hS
   refine op1 (fa (off := 2) (fsz := 1) (ft := 3) (TF := tI) (y := (gi r115.1 y132).aA) T hS kr kr kr h134 kr kr kr (fun cs h => jy h) ?_)
   intro A135 a h136 hS
   refine op1 (ec T hS kr kr kr h136 rfl kr ?_)
   intro v137 a hv hS
   cases hv
   obtain ⟨hq, hm⟩ := hm
   refine op1 (index (e := 75) (k := .i64) T hS kr kr kr kr h126 kr kr hq.1 hq.2 ?_)
   intro A138 a h139 hS
   refine op1 (fa (off := 0) (fsz := 1) (ft := 3) (TF := tI) (y := (gi l_ ((gi r115.1 y132).aA)).ar) T hS kr kr kr h139 kr kr kr (fun cs h => fT h) ?_)
   intro A140 a h141 hS
   refine op1 (ec T hS kr kr kr h141 rfl kr ?_)
   intro v142 a hv hS
   cases hv
   refine op1 (lit (E := 3) (col := 0) (T := tI) (vals := [.int .i64 ((gi l_ ((gi r115.1 y132).aA)).ar)]) (ys := [(gi l_ ((gi r115.1 y132).aA)).ar]) T hS kr kr kr kr (by exact ⟨rfl, trivial⟩) rfl kr kr kr kr ?_)
   intro b143 a w144 X145 hE h146 hN hS
   clear hN
   replace hO := hO.m2 hE
   replace h126 := h126.m1 hE
   replace h127 := h127.m1 hE
   replace h131 := h131.m2 hE
   replace h134 := h134.m1 hE
   replace h136 := h136.m1 hE
   replace h139 := h139.m1 hE
   replace h141 := h141.m1 hE
   replace h146 := h146.rs0
   obtain ⟨hq, hm⟩ := hm
   obtain ⟨news, hN⟩ := h146.src
   refine op1 (append (E := 3) (T := tI) (col := 1006) (xs := y128) T hS kr kr kr kr h131 hN kr kr kr kr hq ?_)
   intro a150 c151 a w147 X148 hE h149 hS
   clear hq hN
   clear h131
   replace hO := hO.m2 hE
   replace h126 := h126.m1 hE
   replace h127 := h127.m1 hE
   replace h134 := h134.m1 hE
   replace h136 := h136.m1 hE
   replace h139 := h139.m1 hE
   replace h141 := h141.m1 hE
   replace h146 := h146.m1 hE
   refine ePb T hS [(1, Sl a2 l_ c2), (8, Sl a116 r115.1 c117), (10, Sl a150 (y128 ++ [(gi l_ ((gi r115.1 y132).aA)).ar]) c151), (11, I y132)] fun a hS => ?_
   refine region (ePb T hS [(1, Sl a2 l_ c2), (8, Sl a116 r115.1 c117), (10, Sl a150 (y128 ++ [(gi l_ ((gi r115.1 y132).aA)).ar]) c151), (11, I (wR (y132 + 1)))] fun a hS => ?_)
   exact ⟨⟨y128 ++ [(gi l_ ((gi r115.1 y132).aA)).ar], wR (y132 + 1)⟩, ⟨Z, _, a150, c151, hm.1, hS.sl _, hO, h126, h127, h149⟩, hm.2⟩
  replace hm := hm.2 hb
  refine b0 (by rfl) ?_
  exact ⟨Z, _, y128, a129, c130, hm, hS.sl _, hO, h127, h131⟩
 rintro a w155 ⟨Z, X154, y120, a121, c122, hm, hS, hO, h119, h123⟩
 unfold VC10_J1 at hm
 refine rPb T hS [(4, Sl a116 r115.1 c117), (5, Sl a121 y120 c122)] fun a hS => ?_
 refine aU ?_
 obtain ⟨X124, hE, hF⟩ := h123.freeze (by decide)
 replace hS := hS.ev hE (bW kr)
 replace hO := hO.m2 hE
 replace h119 := h119.m1 hE
 have h125 := hF; clear hE hF
 exact fin T hS hO (fun c => c) rfl (r := [.slice a116 r115.1.length c117, .slice a121 y120.length c122]) kr (fun X' hM hC => ⟨(r115.1, y120), hm, a116, c117, a121, c122, rfl, h119.m0 hM, h125.m0 hM⟩)
theorem C10 (k30 : S30) (k33 : S33) (k7 : S7) (v : ∀ (objects : List ai) (l_ : List aD), fJ objects l_ -> VC10 objects l_ (fun r => r = df objects l_)) : S10 := by
 intro w X objects l_ a1 c1 a2 c2   hp h1 h2
 refine (W10 k30 k33 k7 w X objects l_ a1 c1 a2 c2   _ (v objects l_ hp) h1 h2).mono ?_
 rintro _ _ _ _ ⟨r, rfl, h⟩
 exact h
theorem W38 (k6 : S6) (k9 : S9) (w0) (X0) (h_ : ak) (a1) (c1) (a2) (c2) (Q : (List aa) × (List Int) × Int -> Prop) (hm : VC38 h_ Q) (h1 : RS aE w0 X0 a1 h_.ae c1) (h2 : RS aK w0 X0 a2 h_.aj c2) :
  Ret Try.prog 38 #[.agg #[.slice a1 h_.ae.length c1, .slice a2 h_.aj.length c2]] aF w0 X0 (fun w X' v => ∃ r, Q r /\ ∃ ra1 rc1 ra2 rc2, v = .tuple #[.slice ra1 r.1.length rc1, .slice ra2 r.2.1.length rc2, .int .i64 r.2.2] /\ RS aq w X' ra1 r.1 rc1 /\ RS tI w X' ra2 r.2.1 rc2) := by
 unfold VC38 at hm
 replace hm := hm (h1.sm kr)
 replace hm := hm (h2.sm kr)
 refine enter Try.func38 rfl (vals := [.agg #[.slice a1 h_.ae.length c1, .slice a2 h_.aj.length c2]]) kr ?_
 intro Z a hS hO hM
 replace h1 := h1.m0 hM
 replace h2 := h2.m0 hM
 refine rM T hS ⟨[(1, Pt 2 0)], [(2, (25, [Sl a1 h_.ae c1, Sl a2 h_.aj c2]))]⟩ fun Z a w115 X116 hS hE hr => ?_
 replace hO := hO.m2 hE
 replace h1 := h1.m1 hE
 replace h2 := h2.m1 hE
 clear hE hr
 refine ba ?_
 refine bb ?_
 refine oPb T hS 1 [(1, Pt 2 0), (10, V (.agg #[.slice a1 h_.ae.length c1, .slice a2 h_.aj.length c2]))] fun a hS => ?_
 obtain ⟨hq, hm⟩ := hm
 refine op1 (call hS kr kr hb6 kr (fun _ _ => rfl) (k6 _ _ h_ a1 c1 a2 c2 hq h1 h2) ?_)
 intro v101 a w102 X103 hE hp hS
 replace hO := hO.m2 hE
 replace h1 := h1.m1 hE
 replace h2 := h2.m1 hE
 obtain ⟨r104, hr⟩ : ∃ r, aV h_ = r := ⟨_, rfl⟩
 replace hm := hm r104 hr
 rw [hr] at hp
 clear hr
 subst hp
 refine ePb T hS [(1, Pt 2 0), (6, I r104.2)] fun a hS => ?_
 refine rPb T hS [(1, Pt 2 0), (6, I r104.2), (15, B (r104.2 != 0))] fun a hS => ?_
 refine aG hS (b := (r104.2 != 0)) kr (fun hb => ?_) fun hb => ?_
 ·replace hm := hm.1 hb
  refine rP T hS ⟨[(2, V (.slice none 0 0)), (3, V (.slice none 0 0)), (4, I r104.2)], []⟩ fun a hS => ?_
  refine aU ?_
  exact fin T hS hO (fun c => c) rfl (r := [.slice none 0 0, .slice none 0 0, .int .i64 r104.2]) kr (fun X' hM hC => ⟨([], [], r104.2), hm, none, 0, none, 0, rfl, RS.empty _ _ _, RS.empty _ _ _⟩)
 replace hm := hm.2 hb
 refine aJ ?_
 refine bb ?_
 refine oP T hS 1 ⟨[(18, V (.agg #[.slice a1 h_.ae.length c1, .slice a2 h_.aj.length c2]))], []⟩ fun a hS => ?_
 obtain ⟨hq, hm⟩ := hm
 refine op1 (call hS kr kr hb9 kr (fun _ _ => rfl) (k9 _ _ h_ a1 c1 a2 c2 hq h1 h2) ?_)
 intro v105 a w106 X107 hE hp hS
 replace hO := hO.m2 hE
 replace h1 := h1.m1 hE
 replace h2 := h2.m1 hE
 obtain ⟨a109, c110, a112, c113, hp, h111, h114⟩ := hp
 obtain ⟨r108, hr⟩ : ∃ r, bP h_ = r := ⟨_, rfl⟩
 replace hm := hm r108 hr
 rw [hr] at hp h111 h114
 clear hr
 subst hp
 replace hm := hm (h111.sm kr)
 replace hm := hm (h114.sm kr)
 refine ePb T hS [(7, Sl a109 r108.1 c110), (8, Sl a112 r108.2 c113)] fun a hS => ?_
 refine ba ?_
 refine rPb T hS [(7, Sl a109 r108.1 c110), (8, Sl a112 r108.2 c113), (24, B (decide ((lN r108.1) > 20)))] fun a hS => ?_
 refine aG hS (b := decide ((lN r108.1) > 20)) kr (fun hb => ?_) fun hb => ?_
 ·replace hm := hm.1 hb
  refine rPb T hS [(2, V (.slice none 0 0)), (3, V (.slice none 0 0)), (4, I 3)] fun a hS => ?_
  refine aU ?_
  exact fin T hS hO (fun c => c) rfl (r := [.slice none 0 0, .slice none 0 0, .int .i64 3]) kr (fun X' hM hC => ⟨([], [], 3), hm, none, 0, none, 0, rfl, RS.empty _ _ _, RS.empty _ _ _⟩)
 replace hm := hm.2 hb
 refine aJ ?_
 refine rPb T hS [(2, Sl a109 r108.1 c110), (3, Sl a112 r108.2 c113), (4, I 0)] fun a hS => ?_
 refine aU ?_
 exact fin T hS hO (fun c => c) rfl (r := [.slice a109 r108.1.length c110, .slice a112 r108.2.length c113, .int .i64 0]) kr (fun X' hM hC => ⟨(r108.1, r108.2, 0), hm, a109, c110, a112, c113, rfl, h111.m0 hM, h114.m0 hM⟩)
theorem C38 (k6 : S6) (k9 : S9) (v : ∀ (h_ : ak), dS h_ -> VC38 h_ (fun r => r = cm h_)) : S38 := by
 intro w X h_ a1 c1 a2 c2   hp h1 h2
 refine (W38 k6 k9 w X h_ a1 c1 a2 c2   _ (v h_ hp) h1 h2).mono ?_
 rintro _ _ _ _ ⟨r, rfl, h⟩
 exact h
theorem W52 (w0) (X0) (of : List Int) (k_ : Int) (a1) (c1) (Q : (List Int) -> Prop) (hm : VC52 of k_ Q) (h1 : RS tI w0 X0 a1 of c1) :
  Ret Try.prog 52 #[.slice a1 of.length c1, .int .i64 k_] aF w0 X0 (fun w X' v => ∃ r, Q r /\ ∃ ra1 rc1, v = .slice ra1 r.length rc1 /\ RS tI w X' ra1 r rc1) := by
 unfold VC52 at hm
 replace hm := hm (h1.sm kr)
 refine enter Try.func52 rfl (vals := [.slice a1 of.length c1, .int .i64 k_]) kr ?_
 intro Z a hS hO hM
 replace h1 := h1.m0 hM
 refine rPb T hS [(0, Sl a1 of c1), (1, I k_)] fun a hS => ?_
 refine rPb T hS [(0, Sl a1 of c1), (1, I k_), (5, V (.slice none 0 0))] fun a hS => ?_
 refine bU (fun a w => ∃ (Z : Nat -> Nat) (X : Nat -> Nat) (y101 : List Int) (a102 : Option Addr) (c103 : Nat), VC52_J1 Q y101 /\ St Try.f52.ntmps ⟨[(5, Sl a102 y101 c103)], []⟩ Z a w X /\ Old w0 X0 w X /\ OS tI 3 w X 1005 a102 y101 c103) ?_ ?_
 ·refine rPb T hS [(1, I k_), (5, V (.slice none 0 0)), (8, Sl a1 of c1), (9, I (lN of)), (10, I 0)] fun a hS => ?_
  refine aO ?_
  obtain ⟨I1, μ1, hm0, hm⟩ := hm
  refine b8 (σ := (List Int) × Int) (fun s a w => ∃ Z X a108 c109, I1 s.1 s.2 /\ St Try.f52.ntmps ⟨[(1, I k_), (5, Sl a108 s.1 c109), (8, Sl a1 of c1), (9, I (lN of)), (10, I s.2)], []⟩ Z a w X /\ Old w0 X0 w X /\ OS tI 3 w X 1005 a108 s.1 c109 /\ RS tI w X a1 of c1) (fun s => μ1 s.1 s.2) (⟨[], 0⟩) ?_ ?_
  ·exact ⟨Z, _, none, 0, hm0, hS.sl _, hO, (OS.nil _ _ _ _ _), h1⟩
  rintro ⟨y107, y112⟩ a w133 ⟨Z, X132, a108, c109, hI, hS, hO, h110, h111⟩
  replace hm := hm y107 y112 hI
  clear hI hm0
  refine rPb T hS [(1, I k_), (5, Sl a108 y107 c109), (8, Sl a1 of c1), (9, I (lN of)), (10, I y112), (11, B (decide (y112 < (lN of))))] fun a hS => ?_
  refine ba ?_
  refine aG hS (b := decide (y112 < (lN of))) kr (fun hb => ?_) fun hb => ?_
  ·replace hm := hm.1 hb
   refine aJ ?_
   refine bU (fun a w => ∃ (Z : Nat -> Nat) (X : Nat -> Nat) (y113 : List Int) (a114 : Option Addr) (c115 : Nat), VC52_J2 I1 μ1 y107 y112 y113 /\ St Try.f52.ntmps ⟨[(1, I k_), (5, Sl a114 y113 c115), (8, Sl a1 of c1), (9, I (lN of)), (10, I y112)], []⟩ Z a w X /\ Old w0 X0 w X /\ OS tI 3 w X 1005 a114 y113 c115 /\ RS tI w X a1 of c1) ?_ ?_
   ·refine aO ?_
    refine bb ?_
    refine oPb T hS 1 [(1, I k_), (5, Sl a108 y107 c109), (8, Sl a1 of c1), (9, I (lN of)), (10, I y112), (12, I y112)] fun a hS => ?_
    obtain ⟨hq, hm⟩ := hm
    refine op1 (index (e := 3) (k := .i64) T hS kr kr kr kr h111 kr kr hq.1 hq.2 ?_)
    intro A118 a h119 hS
    refine op1 (ec T hS kr kr kr h119 rfl kr ?_)
    intro v120 a hv hS
    cases hv
    refine ePb T hS [(1, I k_), (5, Sl a108 y107 c109), (6, I y112), (7, I (gi of y112)), (8, Sl a1 of c1), (9, I (lN of)), (10, I y112)] fun a hS => ?_
    refine rPb T hS [(1, I k_), (5, Sl a108 y107 c109), (6, I y112), (8, Sl a1 of c1), (9, I (lN of)), (10, I y112), (17, B ((gi of y112) == k_))] fun a hS => ?_
    refine aG hS (b := ((gi of y112) == k_)) kr (fun hb => ?_) fun hb => ?_
    ·replace hm := hm.1 hb
     refine region ?_
     refine oPb T hS 2 [(1, I k_), (5, Sl a108 y107 c109), (8, Sl a1 of c1), (9, I (lN of)), (10, I y112), (18, Sl a108 y107 c109), (19, I y112)] fun a hS => ?_
     refine op1 (lit (E := 3) (col := 0) (T := tI) (vals := [.int .i64 y112]) (ys := [y112]) T hS kr kr kr kr (by exact ⟨rfl, trivial⟩) rfl kr kr kr kr ?_)
     intro b121 a w122 X123 hE h124 hN hS
     clear hN
     replace hO := hO.m2 hE
     replace h110 := h110.m2 hE
     replace h111 := h111.m1 hE
     replace h124 := h124.rs0
     obtain ⟨hq, hm⟩ := hm
     obtain ⟨news, hN⟩ := h124.src
     refine op1 (append (E := 3) (T := tI) (col := 1005) (xs := y107) T hS kr kr kr kr h110 hN kr kr kr kr hq ?_)
     intro a128 c129 a w125 X126 hE h127 hS
     clear hq hN
     clear h110
     replace hO := hO.m2 hE
     replace h111 := h111.m1 hE
     replace h124 := h124.m1 hE
     refine ePb T hS [(1, I k_), (5, Sl a128 (y107 ++ [y112]) c129), (8, Sl a1 of c1), (9, I (lN of)), (10, I y112)] fun a hS => ?_
     exact ⟨Z, _, y107 ++ [y112], a128, c129, hm, hS.sl _, hO, h127, h111⟩
    replace hm := hm.2 hb
    refine aJ ?_
    exact ⟨Z, _, y107, a108, c109, hm, hS.sl _, hO, h110, h111⟩
   rintro a w131 ⟨Z, X130, y113, a114, c115, hm, hS, hO, h116, h117⟩
   unfold VC52_J2 at hm
   refine region (ePb T hS [(1, I k_), (5, Sl a114 y113 c115), (8, Sl a1 of c1), (9, I (lN of)), (10, I (wR (y112 + 1)))] fun a hS => ?_)
   exact ⟨⟨y113, wR (y112 + 1)⟩, ⟨Z, _, a114, c115, hm.1, hS.sl _, hO, h116, h117⟩, hm.2⟩
  replace hm := hm.2 hb
  refine b0 (by rfl) ?_
  exact ⟨Z, _, y107, a108, c109, hm, hS.sl _, hO, h110⟩
 rintro a w135 ⟨Z, X134, y101, a102, c103, hm, hS, hO, h104⟩
 unfold VC52_J1 at hm
 refine rPb T hS [(4, Sl a102 y101 c103)] fun a hS => ?_
 refine aU ?_
 obtain ⟨X105, hE, hF⟩ := h104.freeze (by decide)
 replace hS := hS.ev hE (bW kr)
 replace hO := hO.m2 hE
 have h106 := hF; clear hE hF
 exact fin T hS hO (fun c => c) rfl (r := [.slice a102 y101.length c103]) kr (fun X' hM hC => ⟨y101, hm, a102, c103, rfl, h106.m0 hM⟩)
theorem C52 (v : ∀ (of : List Int) (k_ : Int), kK of k_ -> VC52 of k_ (fun r => r = bG of k_)) : S52 := by
 intro w X of k_ a1 c1   hp h1
 refine (W52 w X of k_ a1 c1   _ (v of k_ hp) h1).mono ?_
 rintro _ _ _ _ ⟨r, rfl, h⟩
 exact h
theorem W55 (w0) (X0) (i_ : Int) (cap1 : List Int) (cap2 : Int) (a1) (c1) (b1) (i1) (b2) (i2) (Q : Bool -> Prop) (hm : VC55 i_ cap1 cap2 Q) (h1 : RS tI w0 X0 a1 cap1 c1) (hc1 : Cell w0 X0 b1 i1 36 [.slice a1 cap1.length c1]) (hc2 : Cell w0 X0 b2 i2 3 [.int .i64 cap2]) (hA : cH [i1, i2]) :
  Ret Try.prog 55 #[.int .i64 i_, .pointer (some ⟨b1, 0, none⟩), .pointer (some ⟨b2, 0, none⟩)] (pR [i1, i2]) w0 X0 (fun w X' v => ∃ r, Q r /\ v = .bool r /\ Cell w X' b1 i1 36 [.slice a1 cap1.length c1] /\ Cell w X' b2 i2 3 [.int .i64 cap2]) := by
 unfold VC55 at hm
 replace hm := hm (h1.sm kr)
 refine dI Try.func55 rfl (cy [(i1, 901), (i2, 902)]) (fun id => (bif Nat.beq id 901 then b1 else (bif Nat.beq id 902 then b2 else 0))) (args := [I i_, Pt 901 0, Pt 902 0]) (bxs := [(901, (36, [Sl a1 cap1 c1])), (902, (3, [I cap2]))]) kr rfl (a8.cons kr (hc1.map (bn 0 hA.1 rfl)) (a8.cons kr (hc2.map (bn 1 hA.1 rfl)) a8.nil)) (dA (fun q hq => (hA.2 q.1 (List.mem_map.2 ⟨q, hq, rfl⟩)).1)) ?_
 intro a hS hO hM
 have hP : Pin [(901, b1), (902, b2)] (fun id => (bif Nat.beq id 901 then b1 else (bif Nat.beq id 902 then b2 else 0))) := by intro q hq; simp at hq; rcases hq with rfl | rfl <;> rfl
 generalize (fun id => (bif Nat.beq id 901 then b1 else (bif Nat.beq id 902 then b2 else 0))) = Z at hS hP
 clear hc1 hc2
 replace h1 := h1.m0 hM
 refine rPb T hS [(0, I i_), (1, Pt 901 0), (2, Pt 902 0)] fun a hS => ?_
 refine ct [901, 902] mixed hS ?_
 intro w101 X102 hS hE hD hH
 replace hO := hO.m2 hE
 replace h1 := h1.m1 hE
 refine tkb T [0, 1, 4] [901, 902] hS hH #[true, true, false, false, true, false, false] 4 [(5, Sl a1 cap1 c1), (6, I i_), (9, I cap2)] fun a hS => ?_
 obtain ⟨hq, hm⟩ := hm
 refine cD (e := 3) (k := .i64) T 2 hS kr kr kr (by rfl) kr hH kr kr h1 kr kr hq.1 hq.2 ?_
 intro A103 a h104 hS
 have h104b := h104.here
 refine dB T 3 hS kr kr kr (by rfl) kr hH kr h104 h104b rfl kr ?_
 intro v105 a hv hS
 cases hv
 refine tkb T [5, 6] [901, 902] hS hH (tts 7) 0 [(4, B ((gi cap1 i_) == cap2))] fun a hS => ?_
 refine aM kr ?_
 replace hS := hS.slb [(4, B ((gi cap1 i_) == cap2))]
 refine aU ?_
 exact eA T hS hO (fun c h => bu kr h) (fun c h => bw (l := [(i1, 901), (i2, 902)]) h) (bq [(i1, 901), (i2, 902)]) rfl (r := [.bool ((gi cap1 i_) == cap2)]) kr (fun X' hM hC => ⟨((gi cap1 i_) == cap2), hm, rfl, ((hS.cell (id := 901) (t := 36) (cs := [Sl a1 cap1 c1]) kr).out (f := (bq [(i1, 901), (i2, 902)])) hC kr kr (hP.at 0 rfl)), ((hS.cell (id := 902) (t := 3) (cs := [I cap2]) kr).out (f := (bq [(i1, 901), (i2, 902)])) hC kr kr (hP.at 1 rfl))⟩)
theorem C55 (v : ∀ (i_ : Int) (cap1 : List Int) (cap2 : Int), lr i_ cap1 cap2 -> VC55 i_ cap1 cap2 (fun r => r = cz i_ cap1 cap2)) : S55 := by
 intro w X i_ cap1 cap2 a1 c1  b1 i1 b2 i2 hp h1 hc1 hc2 hA
 refine (W55 w X i_ cap1 cap2 a1 c1  b1 i1 b2 i2 _ (v i_ cap1 cap2 hp) h1 hc1 hc2 hA).mono ?_
 rintro _ _ _ _ ⟨r, rfl, h⟩
 exact h
theorem W54_55 (k55 : S55) (w0) (X0) (l_ : List aa) (cap1 : List Int) (cap2 : Int) (a1) (c1) (a2) (c2) (b1) (i1) (b2) (i2) (Q : (List aa) -> Prop) (hm : VC54_55 l_ cap1 cap2 Q) (h1 : RS aq w0 X0 a1 l_ c1) (h2 : RS tI w0 X0 a2 cap1 c2) (hc1 : Cell w0 X0 b1 i1 36 [.slice a2 cap1.length c2]) (hc2 : Cell w0 X0 b2 i2 3 [.int .i64 cap2]) (hA : cH [i1, i2]) :
  Ret Try.prog 54 #[.slice a1 l_.length c1, .func (.func 55) #[] #[.pointer (some ⟨b1, 0, none⟩), .pointer (some ⟨b2, 0, none⟩)]] (pR [i1, i2]) w0 X0 (fun w X' v => ∃ r, Q r /\ ∃ ra1 rc1, v = .slice ra1 r.length rc1 /\ RS aq w X' ra1 r rc1 /\ Cell w X' b1 i1 36 [.slice a2 cap1.length c2] /\ Cell w X' b2 i2 3 [.int .i64 cap2]) := by
 unfold VC54_55 at hm
 replace hm := hm (h1.sm kr)
 replace hm := hm (h2.sm kr)
 refine dI Try.func54 rfl (cy [(i1, 901), (i2, 902)]) (fun id => (bif Nat.beq id 901 then b1 else (bif Nat.beq id 902 then b2 else 0))) (args := [Sl a1 l_ c1, .f (.func 55) [] [.p 901 0, .p 902 0]]) (bxs := [(901, (36, [Sl a2 cap1 c2])), (902, (3, [I cap2]))]) kr rfl (a8.cons kr (hc1.map (bn 0 hA.1 rfl)) (a8.cons kr (hc2.map (bn 1 hA.1 rfl)) a8.nil)) (dA (fun q hq => (hA.2 q.1 (List.mem_map.2 ⟨q, hq, rfl⟩)).1)) ?_
 intro a hS hO hM
 have hP : Pin [(901, b1), (902, b2)] (fun id => (bif Nat.beq id 901 then b1 else (bif Nat.beq id 902 then b2 else 0))) := by intro q hq; simp at hq; rcases hq with rfl | rfl <;> rfl
 generalize (fun id => (bif Nat.beq id 901 then b1 else (bif Nat.beq id 902 then b2 else 0))) = Z at hS hP
 clear hc1 hc2
 replace h1 := h1.m0 hM
 replace h2 := h2.m0 hM
 refine rPb T hS [(0, Sl a1 l_ c1), (1, .f (.func 55) [] [.p 901 0, .p 902 0])] fun a hS => ?_
 refine rPb T hS [(0, Sl a1 l_ c1), (1, .f (.func 55) [] [.p 901 0, .p 902 0]), (5, V (.slice none 0 0))] fun a hS => ?_
 refine bU (fun a w => ∃ (Z : Nat -> Nat) (X : Nat -> Nat) (y101 : List aa) (a102 : Option Addr) (c103 : Nat), VC54_55_J1 Q y101 /\ St Try.f54.ntmps ⟨[(5, Sl a102 y101 c103)], [(901, (36, [Sl a2 cap1 c2])), (902, (3, [I cap2]))]⟩ Z a w X /\ dR (cy [(i1, 901), (i2, 902)]) w0 X0 w X /\ Pin [(901, b1), (902, b2)] Z /\ OS aq 80 w X 1005 a102 y101 c103 /\ RS tI w X a2 cap1 c2) ?_ ?_
 ·refine rPb T hS [(1, .f (.func 55) [] [.p 901 0, .p 902 0]), (5, V (.slice none 0 0)), (8, Sl a1 l_ c1), (9, I (lN l_)), (10, I 0)] fun a hS => ?_
  refine aO ?_
  obtain ⟨I1, μ1, hm0, hm⟩ := hm
  refine b8 (σ := (List aa) × Int) (fun s a w => ∃ Z X a109 c110, I1 s.1 s.2 /\ St Try.f54.ntmps ⟨[(1, .f (.func 55) [] [.p 901 0, .p 902 0]), (5, Sl a109 s.1 c110), (8, Sl a1 l_ c1), (9, I (lN l_)), (10, I s.2)], [(901, (36, [Sl a2 cap1 c2])), (902, (3, [I cap2]))]⟩ Z a w X /\ dR (cy [(i1, 901), (i2, 902)]) w0 X0 w X /\ Pin [(901, b1), (902, b2)] Z /\ OS aq 80 w X 1005 a109 s.1 c110 /\ RS aq w X a1 l_ c1 /\ RS tI w X a2 cap1 c2) (fun s => μ1 s.1 s.2) (⟨[], 0⟩) ?_ ?_
  ·exact ⟨Z, _, none, 0, hm0, hS.sl _, hO, hP, (OS.nil _ _ _ _ _), h1, h2⟩
  rintro ⟨y108, y113⟩ a w144 ⟨Z, X143, a109, c110, hI, hS, hO, hP, h111, h112, h114⟩
  replace hm := hm y108 y113 hI
  clear hI hm0
  refine rPb T hS [(1, .f (.func 55) [] [.p 901 0, .p 902 0]), (5, Sl a109 y108 c110), (8, Sl a1 l_ c1), (9, I (lN l_)), (10, I y113), (11, B (decide (y113 < (lN l_))))] fun a hS => ?_
  refine ba ?_
  refine aG hS (b := decide (y113 < (lN l_))) kr (fun hb => ?_) fun hb => ?_
  ·replace hm := hm.1 hb
   refine aJ ?_
   refine bU (fun a w => ∃ (Z : Nat -> Nat) (X : Nat -> Nat) (y115 : List aa) (a116 : Option Addr) (c117 : Nat), VC54_55_J2 I1 μ1 y108 y113 y115 /\ St Try.f54.ntmps ⟨[(1, .f (.func 55) [] [.p 901 0, .p 902 0]), (5, Sl a116 y115 c117), (8, Sl a1 l_ c1), (9, I (lN l_)), (10, I y113)], [(901, (36, [Sl a2 cap1 c2])), (902, (3, [I cap2]))]⟩ Z a w X /\ dR (cy [(i1, 901), (i2, 902)]) w0 X0 w X /\ Pin [(901, b1), (902, b2)] Z /\ OS aq 80 w X 1005 a116 y115 c117 /\ RS aq w X a1 l_ c1 /\ RS tI w X a2 cap1 c2) ?_ ?_
   ·refine aO ?_
    refine bb ?_
    refine oPb T hS 1 [(1, .f (.func 55) [] [.p 901 0, .p 902 0]), (5, Sl a109 y108 c110), (8, Sl a1 l_ c1), (9, I (lN l_)), (10, I y113), (12, I y113)] fun a hS => ?_
    obtain ⟨hq, hm⟩ := hm
    refine op1 (index (e := 80) (k := .i64) T hS kr kr kr kr h112 kr kr hq.1 hq.2 ?_)
    intro A121 a h122 hS
    refine op1 (di T hS kr kr kr h122 kr kr ?_)
    intro v123 a hv hS
    subst hv
    refine eM T hS ⟨[(1, .f (.func 55) [] [.p 901 0, .p 902 0]), (5, Sl a109 y108 c110), (6, I y113), (7, Pt 8 0), (8, Sl a1 l_ c1), (9, I (lN l_)), (10, I y113)], [(8, (80, (cP (gi l_ y113)))), (901, (36, [Sl a2 cap1 c2])), (902, (3, [I cap2]))]⟩ fun Z a w139 X140 hS hE hr => ?_
    replace hO := hO.m2 hE
    replace h111 := h111.m2 hE
    replace h112 := h112.m1 hE
    replace h114 := h114.m1 hE
    replace hP := hP.mv hr kr
    clear hE hr
    refine bb ?_
    refine oPb T hS 2 [(1, .f (.func 55) [] [.p 901 0, .p 902 0]), (5, Sl a109 y108 c110), (7, Pt 8 0), (8, Sl a1 l_ c1), (9, I (lN l_)), (10, I y113), (15, .f (.func 55) [] [.p 901 0, .p 902 0]), (16, I y113)] fun a hS => ?_
    obtain ⟨hq, hm⟩ := hm
    refine op1 (fR (fi := []) (cp := [.p 901 0, .p 902 0]) hS kr kr hb55 kr kr (k55 _ _ y113 cap1 cap2 a2 c2 (Z 901) 901 (Z 902) 902 hq h114 (hS.cell (id := 901) (t := 36) (cs := [Sl a2 cap1 c2]) kr) (hS.cell (id := 902) (t := 3) (cs := [I cap2]) kr) ⟨by decide, by decide⟩) ?_)
    intro v124 a w125 X126 hE hp hS
    replace hO := hO.m2 hE
    replace h111 := h111.m2 hE
    replace h112 := h112.m1 hE
    replace h114 := h114.m1 hE
    obtain ⟨hp, hc128, hc129⟩ := hp
    obtain ⟨r127, hr⟩ : ∃ r, cz y113 cap1 cap2 = r := ⟨_, rfl⟩
    replace hm := hm r127 hr
    rw [hr] at hp
    clear hr
    subst hp
    replace hS := hS.bQ (id := 901) (t := 36) (cs := [Sl a2 cap1 c2]) kr hc128
    replace hS := hS.bQ (id := 902) (t := 3) (cs := [I cap2]) kr hc129
    clear hc128 hc129
    refine eO ?_
    refine aG hS (b := r127) kr (fun hb => ?_) fun hb => ?_
    ·replace hm := hm.1 hb
     refine region ?_
     refine oP T hS 2 ⟨[(1, .f (.func 55) [] [.p 901 0, .p 902 0]), (5, Sl a109 y108 c110), (8, Sl a1 l_ c1), (9, I (lN l_)), (10, I y113), (18, Sl a109 y108 c110), (19, V (.agg #[.int .i64 ((gi l_ y113).ab), .int .i64 ((gi l_ y113).Kind), .int .i64 ((gi l_ y113).aA), .int .i64 ((gi l_ y113).End), .int .i64 ((gi l_ y113).Result)]))], [(901, (36, [Sl a2 cap1 c2])), (902, (3, [I cap2]))]⟩ fun a hS => ?_
     refine op1 (lit (E := 80) (col := 0) (T := aq) (vals := [.agg #[.int .i64 ((gi l_ y113).ab), .int .i64 ((gi l_ y113).Kind), .int .i64 ((gi l_ y113).aA), .int .i64 ((gi l_ y113).End), .int .i64 ((gi l_ y113).Result)]]) (ys := [(gi l_ y113)]) T hS kr kr kr kr (by exact ⟨rfl, trivial⟩) rfl kr kr kr kr ?_)
     intro b130 a w131 X132 hE h133 hN hS
     clear hN
     replace hO := hO.m2 hE
     replace h111 := h111.m2 hE
     replace h112 := h112.m1 hE
     replace h114 := h114.m1 hE
     replace h133 := h133.rs0
     obtain ⟨hq, hm⟩ := hm
     obtain ⟨news, hN⟩ := h133.src
     refine op1 (append (E := 80) (T := aq) (col := 1005) (xs := y108) T hS kr kr kr kr h111 hN kr kr kr kr hq ?_)
     intro a137 c138 a w134 X135 hE h136 hS
     clear hq hN
     clear h111
     replace hO := hO.m2 hE
     replace h112 := h112.m1 hE
     replace h114 := h114.m1 hE
     replace h133 := h133.m1 hE
     refine ePb T hS [(1, .f (.func 55) [] [.p 901 0, .p 902 0]), (5, Sl a137 (y108 ++ [(gi l_ y113)]) c138), (8, Sl a1 l_ c1), (9, I (lN l_)), (10, I y113)] fun a hS => ?_
     exact ⟨Z, _, y108 ++ [(gi l_ y113)], a137, c138, hm, hS.sl _, hO, hP, h136, h112, h114⟩
    replace hm := hm.2 hb
    refine aJ ?_
    exact ⟨Z, _, y108, a109, c110, hm, hS.sl _, hO, hP, h111, h112, h114⟩
   rintro a w142 ⟨Z, X141, y115, a116, c117, hm, hS, hO, hP, h118, h119, h120⟩
   unfold VC54_55_J2 at hm
   refine region (ePb T hS [(1, .f (.func 55) [] [.p 901 0, .p 902 0]), (5, Sl a116 y115 c117), (8, Sl a1 l_ c1), (9, I (lN l_)), (10, I (wR (y113 + 1)))] fun a hS => ?_)
   exact ⟨⟨y115, wR (y113 + 1)⟩, ⟨Z, _, a116, c117, hm.1, hS.sl _, hO, hP, h118, h119, h120⟩, hm.2⟩
  replace hm := hm.2 hb
  refine b0 (by rfl) ?_
  exact ⟨Z, _, y108, a109, c110, hm, hS.sl _, hO, hP, h111, h114⟩
 rintro a w146 ⟨Z, X145, y101, a102, c103, hm, hS, hO, hP, h104, h105⟩
 unfold VC54_55_J1 at hm
 refine rPb T hS [(4, Sl a102 y101 c103)] fun a hS => ?_
 refine aU ?_
 obtain ⟨X106, hE, hF⟩ := h104.freeze (by decide)
 replace hS := hS.ev hE (bW kr)
 replace hO := hO.m2 hE
 replace h105 := h105.m1 hE
 have h107 := hF; clear hE hF
 exact eA T hS hO (fun c h => bu kr h) (fun c h => bw (l := [(i1, 901), (i2, 902)]) h) (bq [(i1, 901), (i2, 902)]) rfl (r := [.slice a102 y101.length c103]) kr (fun X' hM hC => ⟨y101, hm, a102, c103, rfl, h107.m0 hM, ((hS.cell (id := 901) (t := 36) (cs := [Sl a2 cap1 c2]) kr).out (f := (bq [(i1, 901), (i2, 902)])) hC kr kr (hP.at 0 rfl)), ((hS.cell (id := 902) (t := 3) (cs := [I cap2]) kr).out (f := (bq [(i1, 901), (i2, 902)])) hC kr kr (hP.at 1 rfl))⟩)
theorem C54_55 (k55 : S55) (v : ∀ (l_ : List aa) (cap1 : List Int) (cap2 : Int), nk l_ cap1 cap2 -> VC54_55 l_ cap1 cap2 (fun r => r = bg l_ cap1 cap2)) : S54_55 := by
 intro w X l_ cap1 cap2 a1 c1 a2 c2  b1 i1 b2 i2 hp h1 h2 hc1 hc2 hA
 refine (W54_55 k55 w X l_ cap1 cap2 a1 c1 a2 c2  b1 i1 b2 i2 _ (v l_ cap1 cap2 hp) h1 h2 hc1 hc2 hA).mono ?_
 rintro _ _ _ _ ⟨r, rfl, h⟩
 exact h
theorem W39 (k52 : S52) (k53 : S53) (k54_55 : S54_55) (w0) (X0) (h_ : ak) (l_ : List aa) (of : List Int) (a1) (c1) (a2) (c2) (a3) (c3) (a4) (c4) (Q : (List (List ah)) × Int -> Prop) (hm : VC39 h_ l_ of Q) (h1 : RS aE w0 X0 a1 h_.ae c1) (h2 : RS aK w0 X0 a2 h_.aj c2) (h3 : RS aq w0 X0 a3 l_ c3) (h4 : RS tI w0 X0 a4 of c4) :
  Ret Try.prog 39 #[.agg #[.slice a1 h_.ae.length c1, .slice a2 h_.aj.length c2], .slice a3 l_.length c3, .slice a4 of.length c4] aF w0 X0 (fun w X' v => ∃ r, Q r /\ ∃ ra1 rc1, v = .tuple #[.slice ra1 r.1.length rc1, .int .i64 r.2] /\ RS (dn au) w X' ra1 r.1 rc1) := by
 unfold VC39 at hm
 replace hm := hm (h1.sm kr)
 replace hm := hm (h2.sm kr)
 replace hm := hm (h3.sm kr)
 replace hm := hm (h4.sm kr)
 refine enter Try.func39 rfl (vals := [.agg #[.slice a1 h_.ae.length c1, .slice a2 h_.aj.length c2], .slice a3 l_.length c3, .slice a4 of.length c4]) kr ?_
 intro Z a hS hO hM
 replace h1 := h1.m0 hM
 replace h2 := h2.m0 hM
 replace h3 := h3.m0 hM
 replace h4 := h4.m0 hM
 refine rM T hS ⟨[(1, Sl a3 l_ c3), (3, Pt 4 0), (5, Pt 6 0)], [(4, (25, [Sl a1 h_.ae c1, Sl a2 h_.aj c2])), (6, (36, [Sl a4 of c4]))]⟩ fun Z a w210 X211 hS hE hr => ?_
 replace hO := hO.m2 hE
 replace h1 := h1.m1 hE
 replace h2 := h2.m1 hE
 replace h3 := h3.m1 hE
 replace h4 := h4.m1 hE
 clear hE hr
 refine rP T hS ⟨[(1, Sl a3 l_ c3), (3, Pt 4 0), (5, Pt 6 0), (8, V (.slice none 0 0))], [(4, (25, [Sl a1 h_.ae c1, Sl a2 h_.aj c2])), (6, (36, [Sl a4 of c4]))]⟩ fun a hS => ?_
 refine bU (fun a w => ∃ (Z : Nat -> Nat) (X : Nat -> Nat) (y101 : List (List ah)) (a102 : Option Addr) (c103 : Nat), VC39_J1 Q y101 /\ St Try.f39.ntmps ⟨[(8, Sl a102 y101 c103)], []⟩ Z a w X /\ Old w0 X0 w X /\ OS (dn au) 58 w X 1007 a102 y101 c103) ?_ ?_
 ·refine rP T hS ⟨[(1, Sl a3 l_ c3), (5, Pt 6 0), (8, V (.slice none 0 0)), (17, Sl a1 h_.ae c1), (18, I (lN h_.ae)), (19, I 0)], [(6, (36, [Sl a4 of c4]))]⟩ fun a hS => ?_
  refine aO ?_
  obtain ⟨I1, μ1, hm0, hm⟩ := hm
  refine b8 (σ := (List (List ah)) × Int) (fun s a w => ∃ Z X a109 c110, I1 s.1 s.2 /\ St Try.f39.ntmps ⟨[(1, Sl a3 l_ c3), (5, Pt 6 0), (8, Sl a109 s.1 c110), (17, Sl a1 h_.ae c1), (18, I (lN h_.ae)), (19, I s.2)], [(6, (36, [Sl a4 of c4]))]⟩ Z a w X /\ Old w0 X0 w X /\ RS aq w X a3 l_ c3 /\ OS (dn au) 58 w X 1007 a109 s.1 c110 /\ RS aE w X a1 h_.ae c1 /\ RS tI w X a4 of c4) (fun s => μ1 s.1 s.2) (⟨[], 0⟩) ?_ ?_
  ·exact ⟨Z, _, none, 0, hm0, hS.sl _, hO, h3, (OS.nil _ _ _ _ _), h1, h4⟩
  rintro ⟨y108, y113⟩ a w207 ⟨Z, X206, a109, c110, hI, hS, hO, h107, h111, h112, h114⟩
  replace hm := hm y108 y113 hI
  clear hI hm0
  refine rP T hS ⟨[(1, Sl a3 l_ c3), (5, Pt 6 0), (8, Sl a109 y108 c110), (17, Sl a1 h_.ae c1), (18, I (lN h_.ae)), (19, I y113), (20, B (decide (y113 < (lN h_.ae))))], [(6, (36, [Sl a4 of c4]))]⟩ fun a hS => ?_
  refine ba ?_
  refine aG hS (b := decide (y113 < (lN h_.ae))) kr (fun hb => ?_) fun hb => ?_
  ·replace hm := hm.1 hb
   refine aJ (ba ?_)
   refine aO ?_
   refine bb ?_
   refine oP T hS 1 ⟨[(1, Sl a3 l_ c3), (5, Pt 6 0), (8, Sl a109 y108 c110), (17, Sl a1 h_.ae c1), (18, I (lN h_.ae)), (19, I y113), (21, I y113)], [(6, (36, [Sl a4 of c4]))]⟩ fun a hS => ?_
   obtain ⟨hq, hm⟩ := hm
   refine op1 (index (e := 42) (k := .i64) T hS kr kr kr kr h112 kr kr hq.1 hq.2 ?_)
   intro A115 a h116 hS
   refine op1 (di T hS kr kr kr h116 kr kr ?_)
   intro v117 a hv hS
   obtain ⟨a118, c119, hv, h120⟩ := hv
   subst hv
   replace hm := hm (h120.sm kr)
   refine eM T hS ⟨[(1, Sl a3 l_ c3), (5, Pt 6 0), (8, Sl a109 y108 c110), (9, Pt 10 0), (10, Pt 11 0), (17, Sl a1 h_.ae c1), (18, I (lN h_.ae)), (19, I y113)], [(6, (36, [Sl a4 of c4])), (10, (3, [I y113])), (11, (42, (cO (gi h_.ae y113) a118 c119)))]⟩ fun Z a w204 X205 hS hE hr => ?_
   replace hO := hO.m2 hE
   replace h107 := h107.m1 hE
   replace h111 := h111.m2 hE
   replace h112 := h112.m1 hE
   replace h114 := h114.m1 hE
   replace h120 := h120.m1 hE
   clear hE hr
   refine bb ?_
   refine oP T hS 2 ⟨[(1, Sl a3 l_ c3), (5, Pt 6 0), (8, Sl a109 y108 c110), (9, Pt 10 0), (10, Pt 11 0), (17, Sl a1 h_.ae c1), (18, I (lN h_.ae)), (19, I y113), (24, Sl a4 of c4), (25, I y113)], [(6, (36, [Sl a4 of c4])), (10, (3, [I y113])), (11, (42, (cO (gi h_.ae y113) a118 c119)))]⟩ fun a hS => ?_
   obtain ⟨hq, hm⟩ := hm
   refine op1 (call hS kr kr hb52 kr (fun _ _ => rfl) (k52 _ _ of y113 a4 c4 hq h114) ?_)
   intro v121 a w122 X123 hE hp hS
   replace hO := hO.m2 hE
   replace h107 := h107.m1 hE
   replace h111 := h111.m2 hE
   replace h112 := h112.m1 hE
   replace h114 := h114.m1 hE
   replace h120 := h120.m1 hE
   obtain ⟨a125, c126, hp, h127⟩ := hp
   obtain ⟨r124, hr⟩ : ∃ r, bG of y113 = r := ⟨_, rfl⟩
   replace hm := hm r124 hr
   rw [hr] at hp h127
   clear hr
   subst hp
   replace hm := hm (h127.sm kr)
   refine eP T hS ⟨[(1, Sl a3 l_ c3), (5, Pt 6 0), (8, Sl a109 y108 c110), (9, Pt 10 0), (10, Pt 11 0), (11, Sl a125 r124 c126), (17, Sl a1 h_.ae c1), (18, I (lN h_.ae)), (19, I y113)], [(6, (36, [Sl a4 of c4])), (10, (3, [I y113])), (11, (42, (cO (gi h_.ae y113) a118 c119)))]⟩ fun a hS => ?_
   refine ct [6, 10, 11] mixed hS ?_
   intro w128 X129 hS hE hD hH
   replace hO := hO.m2 hE
   replace h107 := h107.m1 hE
   replace h111 := h111.m2 hE
   replace h112 := h112.m1 hE
   replace h114 := h114.m1 hE
   replace h120 := h120.m1 hE
   replace h127 := h127.m1 hE
   refine tk T [0, 1, 2] [6, 10, 11] hS hH #[true, true, true, false, false, false, false, false, false, false] 7 ⟨[(1, Sl a3 l_ c3), (5, Pt 6 0), (8, Sl a109 y108 c110), (11, Sl a125 r124 c126), (17, Sl a1 h_.ae c1), (18, I (lN h_.ae)), (19, I y113), (28, V (.agg #[.int .i64 ((gi h_.ae y113).ao), .int .i64 ((gi h_.ae y113).av), .int .i64 ((gi h_.ae y113).aC), .slice a118 ((gi h_.ae y113).Rows).length c119])), (29, Sl a3 l_ c3), (30, .f (.func 55) [] [.p 6 0, .p 10 0])], [(6, (36, [Sl a4 of c4])), (10, (3, [I y113])), (11, (42, (cO (gi h_.ae y113) a118 c119)))]⟩ fun a hS => ?_
   obtain ⟨hq, hm⟩ := hm
   refine only 3 kr (by rfl) (gH hS kr kr hb54 kr (k54_55 _ _ l_ of y113 a3 c3 a4 c4 (Z 6) 6 (Z 10) 10 hq h107 h114 (hS.cell (id := 6) (t := 36) (cs := [Sl a4 of c4]) kr) (hS.cell (id := 10) (t := 3) (cs := [I y113]) kr) ⟨by decide, by decide⟩) ?_)
   intro v130 a w131 X132 hE hp hS
   replace hO := hO.m2 hE
   replace hD := hD.ev hE rfl
   replace h107 := h107.m1 hE
   replace h111 := h111.m2 hE
   replace h112 := h112.m1 hE
   replace h114 := h114.m1 hE
   replace h120 := h120.m1 hE
   replace h127 := h127.m1 hE
   obtain ⟨a134, c135, hp, h136, hc137, hc138⟩ := hp
   obtain ⟨r133, hr⟩ : ∃ r, bg l_ of y113 = r := ⟨_, rfl⟩
   replace hm := hm r133 hr
   rw [hr] at hp h136
   clear hr
   subst hp
   replace hm := hm (h136.sm kr)
   replace hS := hS.bQ (id := 6) (t := 36) (cs := [Sl a4 of c4]) kr hc137
   replace hS := hS.bQ (id := 10) (t := 3) (cs := [I y113]) kr hc138
   clear hc137 hc138
   replace hS := hS.sl ⟨[(1, Sl a3 l_ c3), (5, Pt 6 0), (8, Sl a109 y108 c110), (11, Sl a125 r124 c126), (17, Sl a1 h_.ae c1), (18, I (lN h_.ae)), (19, I y113), (28, V (.agg #[.int .i64 ((gi h_.ae y113).ao), .int .i64 ((gi h_.ae y113).av), .int .i64 ((gi h_.ae y113).aC), .slice a118 ((gi h_.ae y113).Rows).length c119])), (29, Sl a3 l_ c3), (30, .f (.func 55) [] [.p 6 0, .p 10 0]), (31, Sl a134 r133 c135)], [(6, (36, [Sl a4 of c4])), (10, (3, [I y113])), (11, (42, (cO (gi h_.ae y113) a118 c119)))]⟩
   refine bX (bl.of hS (bks := [6, 10, 11]) kr hD) ?_
   intro hH
   obtain ⟨hq, hm⟩ := hm
   refine only 4 kr (by rfl) (call hS kr kr hb53 kr (fun _ _ => rfl) (k53 _ _ (gi h_.ae y113) r133 a118 c119 a134 c135 1013 hq h120 h136) ?_)
   intro v139 a w140 X141 hE hp hS
   replace hO := hO.m2 hE
   replace hD := hD.ev hE rfl
   replace h107 := h107.m1 hE
   replace h111 := h111.m2 hE
   replace h112 := h112.m1 hE
   replace h114 := h114.m1 hE
   replace h120 := h120.m1 hE
   replace h127 := h127.m1 hE
   replace h136 := h136.m1 hE
   obtain ⟨a143, c144, hp, h145⟩ := hp
   obtain ⟨r142, hr⟩ : ∃ r, a9 (gi h_.ae y113) r133 = r := ⟨_, rfl⟩
   replace hm := hm r142 hr
   rw [hr] at hp h145
   clear hr
   subst hp
   replace hm := hm (h145.sm kr)
   replace hS := hS.sl ⟨[(1, Sl a3 l_ c3), (5, Pt 6 0), (8, Sl a109 y108 c110), (11, Sl a125 r124 c126), (17, Sl a1 h_.ae c1), (18, I (lN h_.ae)), (19, I y113), (28, V (.agg #[.int .i64 ((gi h_.ae y113).ao), .int .i64 ((gi h_.ae y113).av), .int .i64 ((gi h_.ae y113).aC), .slice a118 ((gi h_.ae y113).Rows).length c119])), (29, Sl a3 l_ c3), (30, .f (.func 55) [] [.p 6 0, .p 10 0]), (31, Sl a134 r133 c135), (32, V (.tuple #[.slice a143 r142.1.length c144, .int .i64 r142.2]))], [(6, (36, [Sl a4 of c4])), (10, (3, [I y113])), (11, (42, (cO (gi h_.ae y113) a118 c119)))]⟩
   refine bX (bl.of hS (bks := [6, 10, 11]) kr hD) ?_
   intro hH
   refine tk T [5, 6, 7, 8, 9] [6, 10, 11] hS hH #[true, true, true, true, true, true, true, true, true, true] 0 ⟨[(1, Sl a3 l_ c3), (5, Pt 6 0), (8, Sl a109 y108 c110), (11, Sl a125 r124 c126), (12, Sl a143 r142.1 c144), (13, I r142.2), (17, Sl a1 h_.ae c1), (18, I (lN h_.ae)), (19, I y113)], [(6, (36, [Sl a4 of c4])), (10, (3, [I y113])), (11, (42, (cO (gi h_.ae y113) a118 c119)))]⟩ fun a hS => ?_
   refine aM kr ?_
   replace hS := hS.sl ⟨[(1, Sl a3 l_ c3), (5, Pt 6 0), (8, Sl a109 y108 c110), (11, Sl a125 r124 c126), (12, Sl a143 r142.1 c144), (13, I r142.2), (17, Sl a1 h_.ae c1), (18, I (lN h_.ae)), (19, I y113)], [(6, (36, [Sl a4 of c4]))]⟩
   refine ba (rP T hS ⟨[(1, Sl a3 l_ c3), (5, Pt 6 0), (8, Sl a109 y108 c110), (11, Sl a125 r124 c126), (12, Sl a143 r142.1 c144), (13, I r142.2), (17, Sl a1 h_.ae c1), (18, I (lN h_.ae)), (19, I y113), (36, B (r142.2 != 0))], [(6, (36, [Sl a4 of c4]))]⟩ fun a hS => ?_)
   refine aG hS (b := (r142.2 != 0)) kr (fun hb => ?_) fun hb => ?_
   ·replace hm := hm.1 hb
    refine rP T hS ⟨[(6, V (.slice none 0 0)), (7, I r142.2)], []⟩ fun a hS => ?_
    refine aU ?_
    exact fin T hS hO (fun c => c) rfl (r := [.slice none 0 0, .int .i64 r142.2]) kr (fun X' hM hC => ⟨([], r142.2), hm, none, 0, rfl, RS.empty _ _ _⟩)
   replace hm := hm.2 hb
   refine aJ ?_
   refine bU (fun a w => ∃ (Z : Nat -> Nat) (X : Nat -> Nat) (y147 : List (List ah)) (y151 : List ah) (a148 : Option Addr) (c149 : Nat) (a152 : Option Addr) (c153 : Nat), VC39_J2 I1 μ1 y108 y113 y147 y151 /\ St Try.f39.ntmps ⟨[(1, Sl a3 l_ c3), (5, Pt 6 0), (8, Sl a148 y147 c149), (12, Sl a152 y151 c153), (17, Sl a1 h_.ae c1), (18, I (lN h_.ae)), (19, I y113)], [(6, (36, [Sl a4 of c4]))]⟩ Z a w X /\ Old w0 X0 w X /\ RS aq w X a3 l_ c3 /\ OS (dn au) 58 w X 1007 a148 y147 c149 /\ OS au 100 w X 1013 a152 y151 c153 /\ RS aE w X a1 h_.ae c1 /\ RS tI w X a4 of c4) ?_ ?_
   ·refine rP T hS ⟨[(1, Sl a3 l_ c3), (5, Pt 6 0), (8, Sl a109 y108 c110), (11, Sl a125 r124 c126), (12, Sl a143 r142.1 c144), (17, Sl a1 h_.ae c1), (18, I (lN h_.ae)), (19, I y113), (38, Sl a143 r142.1 c144), (39, I (lN r142.1)), (40, I 0)], [(6, (36, [Sl a4 of c4]))]⟩ fun a hS => ?_
    refine aO ?_
    obtain ⟨I2, μ2, hm0, hm⟩ := hm
    refine b8 (σ := (List (List ah)) × (List ah) × Int) (fun s a w => ∃ Z X a170 c171 a175 c176, I2 s.1 s.2.1 s.2.2 /\ St Try.f39.ntmps ⟨[(1, Sl a3 l_ c3), (5, Pt 6 0), (8, Sl a170 s.1 c171), (11, Sl a125 r124 c126), (12, Sl a175 s.2.1 c176), (17, Sl a1 h_.ae c1), (18, I (lN h_.ae)), (19, I y113), (38, Sl a175 s.2.1 c176), (39, I (lN r142.1)), (40, I s.2.2)], [(6, (36, [Sl a4 of c4]))]⟩ Z a w X /\ Old w0 X0 w X /\ RS aq w X a3 l_ c3 /\ OS (dn au) 58 w X 1007 a170 s.1 c171 /\ RS tI w X a125 r124 c126 /\ OS au 100 w X 1013 a175 s.2.1 c176 /\ RS aE w X a1 h_.ae c1 /\ RS tI w X a4 of c4) (fun s => μ2 s.1 s.2.1 s.2.2) (⟨y108, r142.1, 0⟩) ?_ ?_
    ·exact ⟨Z, _, a109, c110, a143, c144, hm0, hS.sl _, hO, h107, h111, h127, h145, h112, h114⟩
    rintro ⟨y169, y174, y179⟩ a w201 ⟨Z, X200, a170, c171, a175, c176, hI, hS, hO, h168, h172, h173, h177, h178, h180⟩
    replace hm := hm y169 y174 y179 hI
    clear hI hm0
    refine rP T hS ⟨[(1, Sl a3 l_ c3), (5, Pt 6 0), (8, Sl a170 y169 c171), (11, Sl a125 r124 c126), (12, Sl a175 y174 c176), (17, Sl a1 h_.ae c1), (18, I (lN h_.ae)), (19, I y113), (38, Sl a175 y174 c176), (39, I (lN r142.1)), (40, I y179), (41, B (decide (y179 < (lN r142.1))))], [(6, (36, [Sl a4 of c4]))]⟩ fun a hS => ?_
    refine ba ?_
    refine aG hS (b := decide (y179 < (lN r142.1))) kr (fun hb => ?_) fun hb => ?_
    ·replace hm := hm.1 hb
     refine aJ (ba ?_)
     refine aO ?_
     refine bb ?_
     refine oP T hS 1 ⟨[(1, Sl a3 l_ c3), (5, Pt 6 0), (8, Sl a170 y169 c171), (11, Sl a125 r124 c126), (12, Sl a175 y174 c176), (17, Sl a1 h_.ae c1), (18, I (lN h_.ae)), (19, I y113), (38, Sl a175 y174 c176), (39, I (lN r142.1)), (40, I y179), (42, I y179)], [(6, (36, [Sl a4 of c4]))]⟩ fun a hS => ?_
     obtain ⟨hq184, hm⟩ := hm
     refine op1 (ie (E := 100) (k := .i64) T hS kr kr kr kr h177 kr kr hq184.1 hq184.2 ?_)
     intro A181 a h183 h182 hS
     refine op1 (oU T hS kr kr kr h182 kr kr ?_)
     intro v185 a hv hS
     subst hv
     refine eM T hS ⟨[(1, Sl a3 l_ c3), (5, Pt 6 0), (8, Sl a170 y169 c171), (11, Sl a125 r124 c126), (12, Sl a175 y174 c176), (14, I y179), (15, Pt 16 0), (17, Sl a1 h_.ae c1), (18, I (lN h_.ae)), (19, I y113), (38, Sl a175 y174 c176), (39, I (lN r142.1)), (40, I y179)], [(6, (36, [Sl a4 of c4])), (16, (100, (cK (gi y174 y179))))]⟩ fun Z a w198 X199 hS hE hr => ?_
     replace hO := hO.m2 hE
     replace h168 := h168.m1 hE
     replace h172 := h172.m2 hE
     replace h173 := h173.m1 hE
     replace h177 := h177.m2 hE
     replace h178 := h178.m1 hE
     replace h180 := h180.m1 hE
     clear hE hr
     refine region ?_
     refine oP T hS 5 ⟨[(1, Sl a3 l_ c3), (5, Pt 6 0), (8, Sl a170 y169 c171), (11, Sl a125 r124 c126), (12, Sl a175 y174 c176), (17, Sl a1 h_.ae c1), (18, I (lN h_.ae)), (19, I y113), (38, Sl a175 y174 c176), (39, I (lN r142.1)), (40, I y179), (45, Sl a175 y174 c176), (46, I y179), (47, Sl a125 r124 c126), (49, I ((gi y174 y179).Oper))], [(6, (36, [Sl a4 of c4]))]⟩ fun a hS => ?_
     obtain ⟨hq, hm⟩ := hm
     refine op1 (index (e := 3) (k := .i64) T hS kr kr kr kr h173 kr kr hq.1 hq.2 ?_)
     intro A186 a h187 hS
     refine op1 (ec T hS kr kr kr h187 rfl kr ?_)
     intro v188 a hv hS
     cases hv
     obtain ⟨hq193, hm⟩ := hm
     refine op1 (ie (E := 100) (k := .i64) T hS kr kr kr kr h177 kr kr hq193.1 hq193.2 ?_)
     intro A189 a h191 h190 hS
     have h192 := h191.ad
     clear h191 h190
     refine op1 (lJ (off := 0) (fsz := 1) (ft := 3) T hS kr kr kr h192 kr kr ?_)
     intro A194 a h195 hS
     refine op1 (lh (m := 1) (off := 0) (x := (⟨gi r124 ((gi y174 y179).Oper), (gi y174 y179).Result⟩ : ah)) (v := I (gi r124 ((gi y174 y179).Oper))) (i := y179.toNat) (E := 100) (xs := y174) T hS kr kr kr kr h177 h195 (by have := hq193.1; have := hq193.2; (try simp only [List.length_set]); omega) kr kr rfl (fun _ _ _ h => by cases h; rfl) ?_)
     intro a w196 hE h197 hS
     clear h177
     replace hO := hO.m2 hE
     replace h168 := h168.m1 hE
     replace h172 := h172.m2 hE
     replace h173 := h173.m1 hE
     replace h178 := h178.m1 hE
     replace h180 := h180.m1 hE
     replace h187 := h187.m1 hE
     replace hS := hS.conv (t := 12) (y := .slice a175 (y174.set y179.toNat (⟨gi r124 ((gi y174 y179).Oper), (gi y174 y179).Result⟩ : ah)).length c176) kr (by rw [List.length_set])
     replace hS := hS.conv (t := 38) (y := .slice a175 (y174.set y179.toNat (⟨gi r124 ((gi y174 y179).Oper), (gi y174 y179).Result⟩ : ah)).length c176) kr (by rw [List.length_set])
     replace hS := hS.conv (t := 45) (y := .slice a175 (y174.set y179.toNat (⟨gi r124 ((gi y174 y179).Oper), (gi y174 y179).Result⟩ : ah)).length c176) kr (by rw [List.length_set])
     refine eO ?_
     refine region (eP T hS ⟨[(1, Sl a3 l_ c3), (5, Pt 6 0), (8, Sl a170 y169 c171), (11, Sl a125 r124 c126), (12, Sl a175 (y174.set y179.toNat (⟨gi r124 ((gi y174 y179).Oper), (gi y174 y179).Result⟩ : ah)) c176), (17, Sl a1 h_.ae c1), (18, I (lN h_.ae)), (19, I y113), (38, Sl a175 (y174.set y179.toNat (⟨gi r124 ((gi y174 y179).Oper), (gi y174 y179).Result⟩ : ah)) c176), (39, I (lN r142.1)), (40, I (wR (y179 + 1)))], [(6, (36, [Sl a4 of c4]))]⟩ fun a hS => ?_)
     exact ⟨⟨y169, (y174.set y179.toNat (⟨gi r124 ((gi y174 y179).Oper), (gi y174 y179).Result⟩ : ah)), wR (y179 + 1)⟩, ⟨Z, _, a170, c171, a175, c176, hm.1, hS.sl _, hO, h168, h172, h173, h197, h178, h180⟩, hm.2⟩
    replace hm := hm.2 hb
    refine b0 (by rfl) ?_
    exact ⟨Z, _, y169, y174, a170, c171, a175, c176, hm, hS.sl _, hO, h168, h172, h177, h178, h180⟩
   rintro a w203 ⟨Z, X202, y147, y151, a148, c149, a152, c153, hm, hS, hO, h146, h150, h154, h155, h156⟩
   unfold VC39_J2 at hm
   refine region ?_
   refine oP T hS 2 ⟨[(1, Sl a3 l_ c3), (5, Pt 6 0), (8, Sl a148 y147 c149), (17, Sl a1 h_.ae c1), (18, I (lN h_.ae)), (19, I y113), (55, Sl a148 y147 c149), (56, Sl a152 y151 c153)], [(6, (36, [Sl a4 of c4]))]⟩ fun a hS => ?_
   obtain ⟨X157, hE, hF⟩ := h154.freeze (by decide)
   replace hS := hS.ev hE (bW kr)
   replace hO := hO.m2 hE
   replace h146 := h146.m1 hE
   replace h150 := h150.m2 hE
   replace h155 := h155.m1 hE
   replace h156 := h156.m1 hE
   have h158 := hF; clear hE hF
   refine op1 (lit (E := 58) (col := 0) (T := (dn au)) (vals := [.slice a152 y151.length c153]) (ys := [y151]) T hS kr kr kr kr (by exact ⟨⟨a152, c153, rfl, h158⟩, trivial⟩) rfl kr kr kr kr ?_)
   intro b159 a w160 X161 hE h162 hN hS
   clear hN
   replace hO := hO.m2 hE
   replace h146 := h146.m1 hE
   replace h150 := h150.m2 hE
   replace h155 := h155.m1 hE
   replace h156 := h156.m1 hE
   replace h158 := h158.m1 hE
   replace h162 := h162.rs0
   obtain ⟨hq, hm⟩ := hm
   obtain ⟨news, hN⟩ := h162.src
   refine op1 (append (E := 58) (T := (dn au)) (col := 1007) (xs := y147) T hS kr kr kr kr h150 hN kr kr kr kr hq ?_)
   intro a166 c167 a w163 X164 hE h165 hS
   clear hq hN
   clear h150
   replace hO := hO.m2 hE
   replace h146 := h146.m1 hE
   replace h155 := h155.m1 hE
   replace h156 := h156.m1 hE
   replace h158 := h158.m1 hE
   replace h162 := h162.m1 hE
   refine eP T hS ⟨[(1, Sl a3 l_ c3), (5, Pt 6 0), (8, Sl a166 (y147 ++ [y151]) c167), (17, Sl a1 h_.ae c1), (18, I (lN h_.ae)), (19, I y113)], [(6, (36, [Sl a4 of c4]))]⟩ fun a hS => ?_
   refine region (eP T hS ⟨[(1, Sl a3 l_ c3), (5, Pt 6 0), (8, Sl a166 (y147 ++ [y151]) c167), (17, Sl a1 h_.ae c1), (18, I (lN h_.ae)), (19, I (wR (y113 + 1)))], [(6, (36, [Sl a4 of c4]))]⟩ fun a hS => ?_)
   exact ⟨⟨y147 ++ [y151], wR (y113 + 1)⟩, ⟨Z, _, a166, c167, hm.1, hS.sl _, hO, h146, h165, h155, h156⟩, hm.2⟩
  replace hm := hm.2 hb
  refine b0 (by rfl) ?_
  exact ⟨Z, _, y108, a109, c110, hm, hS.sl _, hO, h111⟩
 rintro a w209 ⟨Z, X208, y101, a102, c103, hm, hS, hO, h104⟩
 unfold VC39_J1 at hm
 refine rP T hS ⟨[(6, Sl a102 y101 c103), (7, I 0)], []⟩ fun a hS => ?_
 refine aU ?_
 obtain ⟨X105, hE, hF⟩ := h104.freeze (by decide)
 replace hS := hS.ev hE (bW kr)
 replace hO := hO.m2 hE
 have h106 := hF; clear hE hF
 exact fin T hS hO (fun c => c) rfl (r := [.slice a102 y101.length c103, .int .i64 0]) kr (fun X' hM hC => ⟨(y101, 0), hm, a102, c103, rfl, h106.m0 hM⟩)
theorem C39 (k52 : S52) (k53 : S53) (k54_55 : S54_55) (v : ∀ (h_ : ak) (l_ : List aa) (of : List Int), ni h_ l_ of -> VC39 h_ l_ of (fun r => r = bT h_ l_ of)) : S39 := by
 intro w X h_ l_ of a1 c1 a2 c2 a3 c3 a4 c4   hp h1 h2 h3 h4
 refine (W39 k52 k53 k54_55 w X h_ l_ of a1 c1 a2 c2 a3 c3 a4 c4   _ (v h_ l_ of hp) h1 h2 h3 h4).mono ?_
 rintro _ _ _ _ ⟨r, rfl, h⟩
 exact h
theorem W71 (w0) (X0) (n_ : Int) (col1) (Q : (List ah) -> Prop) (hm : VC71 n_ Q) :
  Ret Try.prog 71 #[.slice none 0 0, .int .i64 n_] aF w0 X0 (fun w X' v => ∃ r, Q r /\ ∃ ra1 rc1, v = .slice ra1 r.length rc1 /\ OS au 100 w X' col1 ra1 r rc1) := by
 unfold VC71 at hm
 refine enter Try.func71 rfl (vals := [.slice none 0 0, .int .i64 n_]) kr ?_
 intro Z a hS hO hM
 refine rPb T hS [(0, V (.slice none 0 0)), (1, I n_)] fun a hS => ?_
 refine ba ?_
 refine rPb T hS [(0, V (.slice none 0 0)), (1, I n_), (6, B (decide (n_ < 0)))] fun a hS => ?_
 refine aG hS (b := decide (n_ < 0)) kr (fun hb => ?_) fun hb => ?_
 ·replace hm := hm.1 hb
  exact hm.elim
 replace hm := hm.2 hb
 refine aJ ?_
 refine bU (fun a w => ∃ (Z : Nat -> Nat) (X : Nat -> Nat) (y101 : List ah) (a102 : Option Addr) (c103 : Nat), VC71_J1 Q y101 /\ St Try.f71.ntmps ⟨[(0, Sl a102 y101 c103)], []⟩ Z a w X /\ Old w0 X0 w X /\ OS au 100 w X 1001 a102 y101 c103) ?_ ?_
 ·refine bb ?_
  refine oPb T hS 2 [(0, V (.slice none 0 0)), (1, I n_), (8, I n_), (9, V (.slice none 0 0))] fun a hS => ?_
  refine op1 (qo (E := 100) T hS kr kr kr kr ?_)
  intro a hS
  refine ePb T hS [(0, V (.slice none 0 0)), (1, I (wR (n_ - (wR (0 - 0)))))] fun a hS => ?_
  refine rPb T hS [(0, V (.slice none 0 0)), (1, I (wR (n_ - (wR (0 - 0))))), (16, B (decide ((wR (n_ - (wR (0 - 0)))) > 0)))] fun a hS => ?_
  refine aG hS (b := decide ((wR (n_ - (wR (0 - 0)))) > 0)) kr (fun hb => ?_) fun hb => ?_
  ·replace hm := hm.1 hb
   refine region ?_
   refine oPb T hS 2 [(0, V (.slice none 0 0)), (1, I (wR (n_ - (wR (0 - 0))))), (17, V (.slice none 0 0)), (18, V (.slice none 0 0))] fun a hS => ?_
   refine op1 (qo (E := 100) T hS kr kr kr kr ?_)
   intro a hS
   obtain ⟨hq, hm⟩ := hm
   refine op1 (oq (k := .i64) (E := 100) (col := 1001) (T := au) (xs := ([] : List ah)) (ad := none) (c := 0) T hS kr kr kr kr (OS.nil _ _ _ _ _) kr kr hq.1 hq.2 ?_)
   intro a h105 hS
   clear h105
   replace hS := hS.conv (t := 20) (y := .slice none 0 0) kr (by rfl)
   refine oPb T hS 1 [(0, V (.slice none 0 0)), (20, V (.slice none 0 0)), (21, I (wR (n_ - (wR (0 - 0)))))] fun a hS => ?_
   obtain ⟨hq, hm⟩ := hm
   refine op1 (pG (kn := .i64) (E := 100) (T := au) (col := 1001) (m := wR (n_ - (wR (0 - 0)))) T (⟨0, 0⟩ : ah) hS kr kr kr kr kr kr kr kr kr hq.1 hq.2 (fun _ _ => rfl) ?_)
   intro a109 c110 a w106 X107 hE h108 hS
   replace hO := hO.m2 hE
   refine oPb T hS 2 [(0, V (.slice none 0 0)), (22, Sl a109 (List.replicate (wR (n_ - (wR (0 - 0)))).toNat (⟨0, 0⟩ : ah)) c110), (24, I 0)] fun a hS => ?_
   obtain ⟨hq, hm⟩ := hm
   refine op1 (oq (k := .i64) (E := 100) (col := 1001) (T := au) (xs := List.replicate (wR (n_ - (wR (0 - 0)))).toNat (⟨0, 0⟩ : ah)) (ad := a109) (c := c110) T hS kr kr kr kr h108 kr kr hq.1 hq.2 ?_)
   intro a h111 hS
   clear h108
   refine ePb T hS [(0, Sl a109 ((List.replicate (wR (n_ - (wR (0 - 0)))).toNat (⟨0, 0⟩ : ah)).take (0 : Int).toNat) c110)] fun a hS => ?_
   exact ⟨Z, _, (List.replicate (wR (n_ - (wR (0 - 0)))).toNat (⟨0, 0⟩ : ah)).take (0 : Int).toNat, a109, c110, hm, hS.sl _, hO, h111⟩
  replace hm := hm.2 hb
  refine aJ ?_
  exact ⟨Z, _, [], none, 0, hm, hS.sl _, hO, (OS.nil _ _ _ _ _)⟩
 rintro a w113 ⟨Z, X112, y101, a102, c103, hm, hS, hO, h104⟩
 unfold VC71_J1 at hm
 refine rPb T hS [(4, Sl a102 y101 c103)] fun a hS => ?_
 refine aU ?_
 exact fin T hS hO (zL3f0 col1) rfl (r := [.slice a102 y101.length c103]) kr (fun X' hM hC => ⟨y101, hm, a102, c103, rfl, (OS.out (f := (zL3f0 col1)) h104 hM hC kr)⟩)
theorem C71 (v : ∀ (n_ : Int), nu n_ -> VC71 n_ (fun r => r = bI n_)) : S71 := by
 intro w X n_  col1  hp 
 refine (W71 w X n_  col1  _ (v n_ hp)).mono ?_
 rintro _ _ _ _ ⟨r, rfl, h⟩
 exact h
theorem W56 (k71 : S71) (w0) (X0) (slices : List (List ah)) (a1) (c1) (Q : (List ah) -> Prop) (hm : VC56 slices Q) (h1 : RS (dn au) w0 X0 a1 slices c1) :
  Ret Try.prog 56 #[.slice a1 slices.length c1] aF w0 X0 (fun w X' v => ∃ r, Q r /\ ∃ ra1 rc1, v = .slice ra1 r.length rc1 /\ RS au w X' ra1 r rc1) := by
 unfold VC56 at hm
 replace hm := hm (h1.sm kr)
 refine enter Try.func56 rfl (vals := [.slice a1 slices.length c1]) kr ?_
 intro Z a hS hO hM
 replace h1 := h1.m0 hM
 refine rPb T hS [(0, Sl a1 slices c1)] fun a hS => ?_
 refine rPb T hS [(0, Sl a1 slices c1), (3, I 0)] fun a hS => ?_
 refine bU (fun a w => ∃ (Z : Nat -> Nat) (X : Nat -> Nat) (y102 : Int), VC56_J1 slices Q y102 /\ St Try.f56.ntmps ⟨[(0, Sl a1 slices c1), (3, I y102)], []⟩ Z a w X /\ Old w0 X0 w X /\ RS (dn au) w X a1 slices c1) ?_ ?_
 ·refine rPb T hS [(0, Sl a1 slices c1), (3, I 0), (9, Sl a1 slices c1), (10, I (lN slices)), (11, I 0)] fun a hS => ?_
  refine aO ?_
  obtain ⟨I2, μ2, hm0, hm⟩ := hm
  refine b8 (σ := Int × Int) (fun s a w => ∃ Z X, I2 s.1 s.2 /\ St Try.f56.ntmps ⟨[(0, Sl a1 slices c1), (3, I s.1), (9, Sl a1 slices c1), (10, I (lN slices)), (11, I s.2)], []⟩ Z a w X /\ Old w0 X0 w X /\ RS (dn au) w X a1 slices c1 /\ RS (dn au) w X a1 slices c1) (fun s => μ2 s.1 s.2) (⟨0, 0⟩) ?_ ?_
  ·exact ⟨Z, _, hm0, hS.sl _, hO, h1, h1⟩
  rintro ⟨y138, y140⟩ a w148 ⟨Z, X147, hI, hS, hO, h137, h139⟩
  replace hm := hm y138 y140 hI
  clear hI hm0
  refine rPb T hS [(0, Sl a1 slices c1), (3, I y138), (9, Sl a1 slices c1), (10, I (lN slices)), (11, I y140), (12, B (decide (y140 < (lN slices))))] fun a hS => ?_
  refine ba ?_
  refine aG hS (b := decide (y140 < (lN slices))) kr (fun hb => ?_) fun hb => ?_
  ·replace hm := hm.1 hb
   refine aJ (ba ?_)
   refine aO ?_
   refine bb ?_
   obtain ⟨hq, hm⟩ := hm
   refine op1 (index (e := 58) (k := .i64) T hS kr kr kr kr h139 kr kr hq.1 hq.2 ?_)
   intro A141 a h142 hS
   refine op1 (ec T hS kr kr kr h142 rfl kr ?_)
   intro v143 a hv hS
   obtain ⟨a144, c145, hv, h146⟩ := hv
   cases hv
   replace hm := hm (h146.sm kr)
   refine ePb T hS [(0, Sl a1 slices c1), (3, I y138), (5, Sl a144 (gi slices y140) c145), (9, Sl a1 slices c1), (10, I (lN slices)), (11, I y140)] fun a hS => ?_
   refine rPb T hS [(0, Sl a1 slices c1), (3, I (wR (y138 + (lN (gi slices y140))))), (9, Sl a1 slices c1), (10, I (lN slices)), (11, I y140)] fun a hS => ?_
   refine rPb T hS [(0, Sl a1 slices c1), (3, I (wR (y138 + (lN (gi slices y140))))), (9, Sl a1 slices c1), (10, I (lN slices)), (11, I y140), (20, B (decide ((wR (y138 + (lN (gi slices y140)))) < 0)))] fun a hS => ?_
   refine aG hS (b := decide ((wR (y138 + (lN (gi slices y140)))) < 0)) kr (fun hb => ?_) fun hb => ?_
   ·replace hm := hm.1 hb
    exact hm.elim
   replace hm := hm.2 hb
   refine aJ ?_
   refine region (ePb T hS [(0, Sl a1 slices c1), (3, I (wR (y138 + (lN (gi slices y140))))), (9, Sl a1 slices c1), (10, I (lN slices)), (11, I (wR (y140 + 1)))] fun a hS => ?_)
   exact ⟨⟨wR (y138 + (lN (gi slices y140))), wR (y140 + 1)⟩, ⟨Z, _, hm.1, hS.sl _, hO, h137, h139⟩, hm.2⟩
  replace hm := hm.2 hb
  refine b0 (by rfl) ?_
  exact ⟨Z, _, y138, hm, hS.sl _, hO, h137⟩
 rintro a w150 ⟨Z, X149, y102, hm, hS, hO, h101⟩
 unfold VC56_J1 at hm
 refine bb ?_
 refine oPb T hS 1 [(0, Sl a1 slices c1), (23, I y102)] fun a hS => ?_
 obtain ⟨hq, hm⟩ := hm
 refine op1 (call hS kr kr hb71 kr (fun _ _ => rfl) (k71 _ _ y102 1003 hq) ?_)
 intro v103 a w104 X105 hE hp hS
 replace hO := hO.m2 hE
 replace h101 := h101.m1 hE
 obtain ⟨a107, c108, hp, h109⟩ := hp
 obtain ⟨r106, hr⟩ : ∃ r, bI y102 = r := ⟨_, rfl⟩
 replace hm := hm r106 hr
 rw [hr] at hp h109
 clear hr
 subst hp
 replace hm := hm (h109.sm kr)
 refine ePb T hS [(0, Sl a1 slices c1), (6, Sl a107 r106 c108)] fun a hS => ?_
 refine bU (fun a w => ∃ (Z : Nat -> Nat) (X : Nat -> Nat) (y110 : List ah) (a111 : Option Addr) (c112 : Nat), VC56_J2 Q y110 /\ St Try.f56.ntmps ⟨[(6, Sl a111 y110 c112)], []⟩ Z a w X /\ Old w0 X0 w X /\ OS au 100 w X 1003 a111 y110 c112) ?_ ?_
 ·refine rPb T hS [(6, Sl a107 r106 c108), (25, Sl a1 slices c1), (26, I (lN slices)), (27, I 0)] fun a hS => ?_
  refine aO ?_
  obtain ⟨I1, μ1, hm0, hm⟩ := hm
  refine b8 (σ := (List ah) × Int) (fun s a w => ∃ Z X a117 c118, I1 s.1 s.2 /\ St Try.f56.ntmps ⟨[(6, Sl a117 s.1 c118), (25, Sl a1 slices c1), (26, I (lN slices)), (27, I s.2)], []⟩ Z a w X /\ Old w0 X0 w X /\ OS au 100 w X 1003 a117 s.1 c118 /\ RS (dn au) w X a1 slices c1) (fun s => μ1 s.1 s.2) (⟨r106, 0⟩) ?_ ?_
  ·exact ⟨Z, _, a107, c108, hm0, hS.sl _, hO, h109, h101⟩
  rintro ⟨y116, y121⟩ a w134 ⟨Z, X133, a117, c118, hI, hS, hO, h119, h120⟩
  replace hm := hm y116 y121 hI
  clear hI hm0
  refine rPb T hS [(6, Sl a117 y116 c118), (25, Sl a1 slices c1), (26, I (lN slices)), (27, I y121), (28, B (decide (y121 < (lN slices))))] fun a hS => ?_
  refine ba ?_
  refine aG hS (b := decide (y121 < (lN slices))) kr (fun hb => ?_) fun hb => ?_
  ·replace hm := hm.1 hb
   refine aJ (ba ?_)
   refine aO ?_
   refine bb ?_
   obtain ⟨hq, hm⟩ := hm
   refine op1 (index (e := 58) (k := .i64) T hS kr kr kr kr h120 kr kr hq.1 hq.2 ?_)
   intro A122 a h123 hS
   refine op1 (ec T hS kr kr kr h123 rfl kr ?_)
   intro v124 a hv hS
   obtain ⟨a125, c126, hv, h127⟩ := hv
   cases hv
   replace hm := hm (h127.sm kr)
   refine ePb T hS [(6, Sl a117 y116 c118), (8, Sl a125 (gi slices y121) c126), (25, Sl a1 slices c1), (26, I (lN slices)), (27, I y121)] fun a hS => ?_
   refine region ?_
   refine oPb T hS 2 [(6, Sl a117 y116 c118), (25, Sl a1 slices c1), (26, I (lN slices)), (27, I y121), (31, Sl a117 y116 c118), (32, Sl a125 (gi slices y121) c126)] fun a hS => ?_
   obtain ⟨hq, hm⟩ := hm
   obtain ⟨news, hN⟩ := h127.src
   refine op1 (append (E := 100) (T := au) (col := 1003) (xs := y116) T hS kr kr kr kr h119 hN kr kr kr kr hq ?_)
   intro a131 c132 a w128 X129 hE h130 hS
   clear hq hN
   clear h119
   replace hO := hO.m2 hE
   replace h120 := h120.m1 hE
   replace h127 := h127.m1 hE
   refine ePb T hS [(6, Sl a131 (y116 ++ (gi slices y121)) c132), (25, Sl a1 slices c1), (26, I (lN slices)), (27, I y121)] fun a hS => ?_
   refine region (ePb T hS [(6, Sl a131 (y116 ++ (gi slices y121)) c132), (25, Sl a1 slices c1), (26, I (lN slices)), (27, I (wR (y121 + 1)))] fun a hS => ?_)
   exact ⟨⟨y116 ++ (gi slices y121), wR (y121 + 1)⟩, ⟨Z, _, a131, c132, hm.1, hS.sl _, hO, h130, h120⟩, hm.2⟩
  replace hm := hm.2 hb
  refine b0 (by rfl) ?_
  exact ⟨Z, _, y116, a117, c118, hm, hS.sl _, hO, h119⟩
 rintro a w136 ⟨Z, X135, y110, a111, c112, hm, hS, hO, h113⟩
 unfold VC56_J2 at hm
 refine rPb T hS [(2, Sl a111 y110 c112)] fun a hS => ?_
 refine aU ?_
 obtain ⟨X114, hE, hF⟩ := h113.freeze (by decide)
 replace hS := hS.ev hE (bW kr)
 replace hO := hO.m2 hE
 have h115 := hF; clear hE hF
 exact fin T hS hO (fun c => c) rfl (r := [.slice a111 y110.length c112]) kr (fun X' hM hC => ⟨y110, hm, a111, c112, rfl, h115.m0 hM⟩)
theorem C56 (k71 : S71) (v : ∀ (slices : List (List ah)), kM slices -> VC56 slices (fun r => r = bE slices)) : S56 := by
 intro w X slices a1 c1   hp h1
 refine (W56 k71 w X slices a1 c1   _ (v slices hp) h1).mono ?_
 rintro _ _ _ _ ⟨r, rfl, h⟩
 exact h
end Go.Proofs.Yteahldlmkheleaa
