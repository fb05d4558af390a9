/- Walks of the functions: each returns what its condition asks. -/
import Derived.Test.YteahldlmkheleaaLWalksS
set_option linter.all false
namespace Go.Proofs.Yteahldlmkheleaa
open Go Go.Sv
abbrev zL3d0 (col3 col2 col1 : Nat) : Nat -> Nat := fun c => (bif Nat.beq c 13 then col3 else (bif Nat.beq c 1011 then col2 else (bif Nat.beq c 1010 then col1 else c)))
abbrev zL3d1 (col1 : Nat) : Nat -> Nat := fun c => (bif Nat.beq c 1005 then col1 else c)
set_option maxHeartbeats 1000000
theorem W68 (w0) (X0) (o_ : ai) (l_ : List aa) (a1) (c1) (a2) (c2) (col1) (col2) (col3) (Q : aP -> Prop) (hm : VC68 o_ l_ Q) (h1 : RS aw w0 X0 a1 o_.Rows c1) (h2 : RS aq w0 X0 a2 l_ c2) :
  Ret Try.prog 68 #[.agg #[.int .i64 o_.ao, .int .i64 o_.av, .int .i64 o_.aC, .slice a1 o_.Rows.length c1], .slice a2 l_.length c2] aF w0 X0 (fun w X' v => ∃ r, Q r /\ ∃ ra1 rc1 ra2 rc2 ra3 rc3 rr4 rb1, v = .pointer (some ⟨rb1, 0, none⟩) /\ RS aw w X' ra1 r.o.Rows rc1 /\ RS aq w X' ra2 r.l rc2 /\ OS cB 4 w X' col1 ra3 r.done rc3 /\ Cell w X' rb1 col3 144 [.int .i64 r.o.ao, .int .i64 r.o.av, .int .i64 r.o.aC, .slice ra1 r.o.Rows.length rc1, .slice ra2 r.l.length rc2, .slice ra3 r.done.length rc3, .map (some rr4)] /\ OMS aI tI false w X' col2 rr4 r.failed) := by
 unfold VC68 at hm
 replace hm := hm (h1.sm kr)
 replace hm := hm (h2.sm kr)
 refine enter Try.func68 rfl (vals := [.agg #[.int .i64 o_.ao, .int .i64 o_.av, .int .i64 o_.aC, .slice a1 o_.Rows.length c1], .slice a2 l_.length c2]) kr ?_
 intro Z a hS hO hM
 replace h1 := h1.m0 hM
 replace h2 := h2.m0 hM
 refine rM T hS ⟨[(1, Sl a2 l_ c2), (2, Pt 3 0)], [(3, (42, (cO o_ a1 c1)))]⟩ fun Z a w147 X148 hS hE hr => ?_
 replace hO := hO.m2 hE
 replace h1 := h1.m1 hE
 replace h2 := h2.m1 hE
 clear hE hr
 refine ct [3] mixed hS ?_
 intro w101 X102 hS hE hD hH
 replace hO := hO.m2 hE
 replace h1 := h1.m1 hE
 replace h2 := h2.m1 hE
 refine tkb T [0, 1, 2, 3] [3] hS hH #[true, true, true, true, false, false, false, false, false] 5 [(5, V (.agg #[.int .i64 o_.ao, .int .i64 o_.av, .int .i64 o_.aC, .slice a1 o_.Rows.length c1])), (6, Sl a2 l_ c2), (8, I (lN l_))] fun a hS => ?_
 obtain ⟨hgq4, hm⟩ := hm
 refine nI (fun a w => ∃ X a122 c123 r124, St Try.f68.ntmps ⟨[(11, V (.agg #[.int .i64 o_.ao, .int .i64 o_.av, .int .i64 o_.aC, .slice a1 o_.Rows.length c1, .slice a2 l_.length c2, .slice a122 (List.replicate (lN l_).toNat (false : Bool)).length c123, .map (some r124)]))], [(3, (42, (cO o_ a1 c1)))]⟩ Z a w X /\ Old w0 X0 w X /\ M0 w101 X102 w X /\ bl w101 X102 (gW [3] ⟨[(1, Sl a2 l_ c2), (2, Pt 3 0)], [(3, (42, (cO o_ a1 c1)))]⟩) Z w /\ RS aw w X a1 o_.Rows c1 /\ RS aq w X a2 l_ c2 /\ OS cB 4 w X 1010 a122 (List.replicate (lN l_).toNat (false : Bool)) c123 /\ OMS aI tI false w X 1011 r124 ([] : List (bC × Int))) #[true, true, true, true, true, true, true, false, false] 2 ?_ (fun H => ?_)
 ·rintro a w143 ⟨X142, a122, c123, r124, hS, hO, hD, hH, h119, h120, h121, h125⟩
  clear hgq4
  replace hS := hS.sl ⟨[(11, V (.agg #[.int .i64 o_.ao, .int .i64 o_.av, .int .i64 o_.aC, .slice a1 o_.Rows.length c1, .slice a2 l_.length c2, .slice a122 (List.replicate (lN l_).toNat (false : Bool)).length c123, .map (some r124)]))], [(3, (42, (cO o_ a1 c1)))]⟩
  refine only 7 kr (by rfl) (qp (cs := #[.int .i64 o_.ao, .int .i64 o_.av, .int .i64 o_.aC, .slice a1 o_.Rows.length c1, .slice a2 l_.length c2, .slice a122 (List.replicate (lN l_).toNat (false : Bool)).length c123, .map (some r124)]) hS kr kr kr kr (sy' := ⟨[(12, Pt 13 0), (11, V (.agg #[.int .i64 o_.ao, .int .i64 o_.av, .int .i64 o_.aC, .slice a1 o_.Rows.length c1, .slice a2 l_.length c2, .slice a122 (List.replicate (lN l_).toNat (false : Bool)).length c123, .map (some r124)]))], [(13, (144, [I o_.ao, I o_.av, I o_.aC, Sl a1 o_.Rows c1, Sl a2 l_ c2, Sl a122 (List.replicate (lN l_).toNat (false : Bool)) c123, V (.map (some r124))])), (3, (42, (cO o_ a1 c1)))]⟩) kr ?_)
  intro Z a w144 X145 hS hE hr146
  replace hO := hO.m2 hE
  replace hD := hD.ev hE rfl
  replace h119 := h119.m1 hE
  replace h120 := h120.m1 hE
  replace h121 := h121.m2 hE
  replace h125 := h125.m2 hE
  replace hS := hS.sl ⟨[(11, V (.agg #[.int .i64 o_.ao, .int .i64 o_.av, .int .i64 o_.aC, .slice a1 o_.Rows.length c1, .slice a2 l_.length c2, .slice a122 (List.replicate (lN l_).toNat (false : Bool)).length c123, .map (some r124)])), (12, Pt 13 0)], [(3, (42, (cO o_ a1 c1))), (13, (144, [I o_.ao, I o_.av, I o_.aC, Sl a1 o_.Rows c1, Sl a2 l_ c2, Sl a122 (List.replicate (lN l_).toNat (false : Bool)) c123, V (.map (some r124))]))]⟩
  refine bX ((bl.of hS (bks := [3]) kr hD).rho hr146 kr) ?_
  intro hH
  refine pI T hr146 kr [8] [3] [4] hS kr kr kr hH (listed' := #[true, true, true, true, true, true, true, true, true]) (fuel := 0) (sy' := ⟨[(4, Pt 13 0)], [(3, (42, (cO o_ a1 c1))), (13, (144, [I o_.ao, I o_.av, I o_.aC, Sl a1 o_.Rows c1, Sl a2 l_ c2, Sl a122 (List.replicate (lN l_).toNat (false : Bool)) c123, V (.map (some r124))]))]⟩) kr (by rfl) ?_
  intro a hS
  refine aM kr ?_
  replace hS := hS.sl ⟨[(4, Pt 13 0)], [(13, (144, [I o_.ao, I o_.av, I o_.aC, Sl a1 o_.Rows c1, Sl a2 l_ c2, Sl a122 (List.replicate (lN l_).toNat (false : Bool)) c123, V (.map (some r124))]))]⟩
  refine aU ?_
  exact fin T hS hO (zL3d0 col3 col2 col1) rfl (r := [.pointer (some ⟨Z 13, 0, none⟩)]) kr (fun X' hM hC => ⟨(⟨o_, l_, List.replicate (lN l_).toNat (false : Bool), ([] : List (bC × Int))⟩ : aP), hm, a1, c1, a2, c2, a122, c123, r124, (Z 13), rfl, h119.m0 hM, h120.m0 hM, (OS.out (f := (zL3d0 col3 col2 col1)) h121 hM hC kr), ((hS.cell (id := 13) (t := 144) (cs := [I o_.ao, I o_.av, I o_.aC, Sl a1 o_.Rows c1, Sl a2 l_ c2, Sl a122 (List.replicate (lN l_).toNat (false : Bool)) c123, V (.map (some r124))]) kr).out (f := (zL3d0 col3 col2 col1)) hC kr kr rfl), (h125.out (f := (zL3d0 col3 col2 col1)) hM hC kr kr)⟩)
 clear hm
 refine ku (is := [4, 5]) kr (by decide) ?_
 intro i hi
 rcases nY hi with rfl | rfl
 ·have hq := hgq4
  refine fK (by rfl) (make (E := 4) (kl := .i64) (kc := .i64) (col := 1010) (T := cB) T false hS kr kr kr kr kr kr hq.1 hq.2.1 (by have := hq.2.2; have e_ : ((cB.bytes : Nat) : Int) = 1 := rfl; rw [e_]; omega) (by have := hq.2.2; omega) (fun _ _ => rfl) ?_)
  intro b126 a w127 X128 hE h129 hN hS
  clear hq hN
  replace hO := hO.m2 hE
  replace hD := hD.ev hE rfl
  replace h1 := h1.m1 hE
  replace h2 := h2.m1 hE
  replace hS := hS.conv (t := 9) (y := .slice (some ⟨b126, 0, none⟩) (List.replicate (lN l_).toNat (false : Bool)).length (lN l_).toNat) kr (by rw [List.length_replicate])
  refine bX (bl.of hS (bks := [3]) kr hD) ?_
  intro hH
  refine only 5 kr (by rfl) (oN aI tI false 1011 hS kr kr ?_)
  intro r130 a w131 X132 hE h133 hS
  replace hO := hO.m2 hE
  replace hD := hD.ev hE rfl
  replace h1 := h1.m1 hE
  replace h2 := h2.m1 hE
  replace h129 := h129.m2 hE
  refine bX (bl.of hS (bks := [3]) kr hD) ?_
  intro hH
  refine tkb T [6] [3] hS hH #[true, true, true, true, true, true, true, false, false] 2 [(11, V (.agg #[.int .i64 o_.ao, .int .i64 o_.av, .int .i64 o_.aC, .slice a1 o_.Rows.length c1, .slice a2 l_.length c2, .slice (some ⟨b126, 0, none⟩) (List.replicate (lN l_).toNat (false : Bool)).length (lN l_).toNat, .map (some r130)]))] fun a hS => ?_
  exact H _ _ ⟨_, (some ⟨b126, 0, none⟩), (lN l_).toNat, r130, hS.sl _, hO, hD, hH, h1, h2, h129, h133⟩
 refine fK (by rfl) (oN aI tI false 1011 hS kr kr ?_)
 intro r134 a w135 X136 hE h137 hS
 replace hO := hO.m2 hE
 replace hD := hD.ev hE rfl
 replace h1 := h1.m1 hE
 replace h2 := h2.m1 hE
 refine bX (bl.of hS (bks := [3]) kr hD) ?_
 intro hH
 have hq := hgq4
 refine only 4 kr (by rfl) (make (E := 4) (kl := .i64) (kc := .i64) (col := 1010) (T := cB) T false hS kr kr kr kr kr kr hq.1 hq.2.1 (by have := hq.2.2; have e_ : ((cB.bytes : Nat) : Int) = 1 := rfl; rw [e_]; omega) (by have := hq.2.2; omega) (fun _ _ => rfl) ?_)
 intro b138 a w139 X140 hE h141 hN hS
 clear hq hN
 replace hO := hO.m2 hE
 replace hD := hD.ev hE rfl
 replace h1 := h1.m1 hE
 replace h2 := h2.m1 hE
 replace h137 := h137.m2 hE
 replace hS := hS.conv (t := 9) (y := .slice (some ⟨b138, 0, none⟩) (List.replicate (lN l_).toNat (false : Bool)).length (lN l_).toNat) kr (by rw [List.length_replicate])
 refine bX (bl.of hS (bks := [3]) kr hD) ?_
 intro hH
 refine tkb T [6] [3] hS hH #[true, true, true, true, true, true, true, false, false] 2 [(11, V (.agg #[.int .i64 o_.ao, .int .i64 o_.av, .int .i64 o_.aC, .slice a1 o_.Rows.length c1, .slice a2 l_.length c2, .slice (some ⟨b138, 0, none⟩) (List.replicate (lN l_).toNat (false : Bool)).length (lN l_).toNat, .map (some r134)]))] fun a hS => ?_
 exact H _ _ ⟨_, (some ⟨b138, 0, none⟩), (lN l_).toNat, r134, hS.sl _, hO, hD, hH, h1, h2, h141, h137⟩
theorem C68 (v : ∀ (o_ : ai) (l_ : List aa), nz o_ l_ -> VC68 o_ l_ (fun r => r = bf o_ l_)) : S68 := by
 intro w X o_ l_ a1 c1 a2 c2 col1 col2 col3  hp h1 h2
 refine (W68 w X o_ l_ a1 c1 a2 c2 col1 col2 col3  _ (v o_ l_ hp) h1 h2).mono ?_
 rintro _ _ _ _ ⟨r, rfl, h⟩
 exact h
theorem W53 (k67 : S67) (k68 : S68) (k69 : S69) (k70 : S70) (w0) (X0) (o_ : ai) (l_ : List aa) (a1) (c1) (a2) (c2) (col1) (Q : (List ah) × Int -> Prop) (hm : VC53 o_ l_ Q) (h1 : RS aw w0 X0 a1 o_.Rows c1) (h2 : RS aq w0 X0 a2 l_ c2) :
  Ret Try.prog 53 #[.agg #[.int .i64 o_.ao, .int .i64 o_.av, .int .i64 o_.aC, .slice a1 o_.Rows.length c1], .slice a2 l_.length c2] aF w0 X0 (fun w X' v => ∃ r, Q r /\ ∃ ra1 rc1, v = .tuple #[.slice ra1 r.1.length rc1, .int .i64 r.2] /\ OS au 100 w X' col1 ra1 r.1 rc1) := by
 unfold VC53 at hm
 replace hm := hm (h1.sm kr)
 replace hm := hm (h2.sm kr)
 refine enter Try.func53 rfl (vals := [.agg #[.int .i64 o_.ao, .int .i64 o_.av, .int .i64 o_.aC, .slice a1 o_.Rows.length c1], .slice a2 l_.length c2]) kr ?_
 intro Z a hS hO hM
 replace h1 := h1.m0 hM
 replace h2 := h2.m0 hM
 refine rM T hS ⟨[(1, Sl a2 l_ c2), (2, Pt 3 0)], [(3, (42, (cO o_ a1 c1)))]⟩ fun Z a w154 X155 hS hE hr => ?_
 replace hO := hO.m2 hE
 replace h1 := h1.m1 hE
 replace h2 := h2.m1 hE
 clear hE hr
 refine ba ?_
 refine bb ?_
 refine oPb T hS 2 [(1, Sl a2 l_ c2), (2, Pt 3 0), (9, V (.agg #[.int .i64 o_.ao, .int .i64 o_.av, .int .i64 o_.aC, .slice a1 o_.Rows.length c1])), (10, Sl a2 l_ c2)] fun a hS => ?_
 obtain ⟨hq, hm⟩ := hm
 refine op1 (call hS kr kr hb67 kr (fun _ _ => rfl) (k67 _ _ o_ l_ 20 a1 c1 a2 c2 hq h1 h2) ?_)
 intro v101 a w102 X103 hE hp hS
 replace hO := hO.m2 hE
 replace h1 := h1.m1 hE
 replace h2 := h2.m1 hE
 obtain ⟨r104, hr⟩ : ∃ r, bV o_ l_ 20 = r := ⟨_, rfl⟩
 replace hm := hm r104 hr
 rw [hr] at hp
 clear hr
 subst hp
 refine ePb T hS [(1, Sl a2 l_ c2), (2, Pt 3 0), (6, I r104)] fun a hS => ?_
 refine rPb T hS [(1, Sl a2 l_ c2), (2, Pt 3 0), (6, I r104), (13, B (r104 != 0))] fun a hS => ?_
 refine aG hS (b := (r104 != 0)) kr (fun hb => ?_) fun hb => ?_
 ·replace hm := hm.1 hb
  refine rP T hS ⟨[(4, V (.slice none 0 0)), (5, I r104)], []⟩ fun a hS => ?_
  refine aU ?_
  exact fin T hS hO (fun c => c) rfl (r := [.slice none 0 0, .int .i64 r104]) kr (fun X' hM hC => ⟨([], r104), hm, none, 0, rfl, OS.nil _ _ _ _ _⟩)
 replace hm := hm.2 hb
 refine aJ ?_
 refine ct [3] mixed hS ?_
 intro w105 X106 hS hE hD hH
 replace hO := hO.m2 hE
 replace h1 := h1.m1 hE
 replace h2 := h2.m1 hE
 refine tkb T [0, 1, 3, 4] [3] hS hH #[true, true, false, true, true, false, false, false, false, false, false] 7 [(1, Sl a2 l_ c2), (2, Pt 3 0), (16, V (.agg #[.int .i64 o_.ao, .int .i64 o_.av, .int .i64 o_.aC, .slice a1 o_.Rows.length c1])), (17, Sl a2 l_ c2), (20, I o_.aC)] fun a hS => ?_
 obtain ⟨hq, hm⟩ := hm
 refine only 2 kr (by rfl) (call hS kr kr hb68 kr (fun _ _ => rfl) (k68 _ _ o_ l_ a1 c1 a2 c2 4119 2121 702 hq h1 h2) ?_)
 intro v107 a w108 X109 hE hp hS
 replace hO := hO.m2 hE
 replace hD := hD.ev hE rfl
 replace h1 := h1.m1 hE
 replace h2 := h2.m1 hE
 obtain ⟨a111, c112, a114, c115, a117, c118, r121, b122, hp, h113, h116, h119, hc123, h120⟩ := hp
 obtain ⟨r110, hr⟩ : ∃ r, bf o_ l_ = r := ⟨_, rfl⟩
 replace hm := hm r110 hr
 rw [hr] at h113 h116 h119 hc123 h120
 clear hr
 subst hp
 replace hm := hm (h113.sm kr)
 replace hm := hm (h116.sm kr)
 replace hm := hm (h119.sm kr)
 replace hS := hS.iW (id := 702) (t := 144) (cs := [I r110.o.ao, I r110.o.av, I r110.o.aC, Sl a111 r110.o.Rows c112, Sl a114 r110.l c115, Sl a117 r110.done c118, V (.map (some r121))]) kr kr hc123 rfl
 replace hS := hS.o7 (t := 18) (x := V (.pointer (some ⟨b122, 0, none⟩))) (y := Pt 702 0) kr rfl
 have hr124 : ∀ id, id ≠ 702 -> (upd Z 702 b122) id = Z id := fun id h => mE _ h
 generalize (upd Z 702 b122) = Z at hS hr124
 clear hc123
 replace hS := hS.sl ⟨[(1, Sl a2 l_ c2), (2, Pt 3 0), (16, V (.agg #[.int .i64 o_.ao, .int .i64 o_.av, .int .i64 o_.aC, .slice a1 o_.Rows.length c1])), (17, Sl a2 l_ c2), (20, I o_.aC), (18, Pt 702 0)], [(3, (42, (cO o_ a1 c1))), (702, (144, [I r110.o.ao, I r110.o.av, I r110.o.aC, Sl a111 r110.o.Rows c112, Sl a114 r110.l c115, Sl a117 r110.done c118, V (.map (some r121))]))]⟩
 refine bX ((bl.of hS (bks := [3]) kr hD).rho hr124 kr) ?_
 intro hH
 obtain ⟨hq, hm⟩ := hm
 refine only 5 kr (by rfl) (gH hS kr kr hb69 kr (k69 _ _ o_.aC [] r110 none 0 1005 a111 c112 a114 c115 a117 c118 4119 r121 2121 (Z 702) 702 hq (OS.nil _ _ _ _ _) h113 h116 h119 h120 (hS.cell (id := 702) (t := 144) (cs := [I r110.o.ao, I r110.o.av, I r110.o.aC, Sl a111 r110.o.Rows c112, Sl a114 r110.l c115, Sl a117 r110.done c118, V (.map (some r121))]) kr) ⟨by decide, by decide⟩) ?_)
 intro v125 a w126 X127 hE hp hS
 clear h120
 clear h119
 replace hO := hO.m2 hE
 replace hD := hD.ev hE rfl
 replace h1 := h1.m1 hE
 replace h2 := h2.m1 hE
 replace h113 := h113.m1 hE
 replace h116 := h116.m1 hE
 obtain ⟨a129, c130, a132, c133, a135, c136, a138, c139, hp, h131, h134, h137, h140, hc142, h141⟩ := hp
 obtain ⟨r128, hr⟩ : ∃ r, aB o_.aC [] r110 = r := ⟨_, rfl⟩
 replace hm := hm r128 hr
 rw [hr] at hp h131 h134 h137 h140 hc142 h141
 clear hr
 subst hp
 replace hm := hm (h131.sm kr)
 replace hm := hm (h134.sm kr)
 replace hm := hm (h137.sm kr)
 replace hm := hm (h140.sm kr)
 replace hS := hS.bQ (id := 702) (t := 144) (cs := [I r128.2.2.o.ao, I r128.2.2.o.av, I r128.2.2.o.aC, Sl a132 r128.2.2.o.Rows c133, Sl a135 r128.2.2.l c136, Sl a138 r128.2.2.done c139, V (.map (some r121))]) kr hc142
 clear hc142
 replace hS := hS.sl ⟨[(1, Sl a2 l_ c2), (2, Pt 3 0), (16, V (.agg #[.int .i64 o_.ao, .int .i64 o_.av, .int .i64 o_.aC, .slice a1 o_.Rows.length c1])), (17, Sl a2 l_ c2), (20, I o_.aC), (18, Pt 702 0), (21, V (.tuple #[.slice a129 r128.1.length c130, .bool r128.2.1]))], [(3, (42, (cO o_ a1 c1))), (702, (144, [I r128.2.2.o.ao, I r128.2.2.o.av, I r128.2.2.o.aC, Sl a132 r128.2.2.o.Rows c133, Sl a135 r128.2.2.l c136, Sl a138 r128.2.2.done c139, V (.map (some r121))]))]⟩
 refine bX ((bl.of hS (bks := [3]) kr hD).rho hr124 kr) ?_
 intro hH
 refine pI T hr124 kr [6, 7, 8, 9, 10] [3] [1, 2, 7, 8] hS kr kr kr hH (listed' := #[true, true, true, true, true, true, true, true, true, true, true]) (fuel := 0) (sy' := ⟨[(1, Sl a2 l_ c2), (2, Pt 3 0), (7, Sl a129 r128.1 c130), (8, B r128.2.1)], [(3, (42, (cO o_ a1 c1))), (702, (144, [I r128.2.2.o.ao, I r128.2.2.o.av, I r128.2.2.o.aC, Sl a132 r128.2.2.o.Rows c133, Sl a135 r128.2.2.l c136, Sl a138 r128.2.2.done c139, V (.map (some r121))]))]⟩) kr (by rfl) ?_
 intro a hS
 refine aM kr ?_
 replace hS := hS.sl ⟨[(1, Sl a2 l_ c2), (2, Pt 3 0), (7, Sl a129 r128.1 c130), (8, B r128.2.1)], [(3, (42, (cO o_ a1 c1)))]⟩
 refine ba ?_
 refine bU (fun a w => ∃ (Z : Nat -> Nat) (X : Nat -> Nat) (y143 : List ah) (y147 : Bool) (a144 : Option Addr) (c145 : Nat), VC53_J1 Q y143 y147 /\ St Try.f53.ntmps ⟨[(7, Sl a144 y143 c145), (32, B y147)], []⟩ Z a w X /\ Old w0 X0 w X /\ OS au 100 w X 1005 a144 y143 c145) ?_ ?_
 ·refine region ?_
  refine oPb T hS 3 [(1, Sl a2 l_ c2), (2, Pt 3 0), (7, Sl a129 r128.1 c130), (26, B (!r128.2.1))] fun a hS => ?_
  rcases bft (!r128.2.1) with hb | hb
  ·replace hS := hS.lit (t := 26) kr hb
   replace hm := hm.1 hb
   refine eP T hS ⟨[(7, Sl a129 r128.1 c130), (32, B true)], []⟩ fun a hS => ?_
   exact ⟨Z, _, r128.1, true, a129, c130, hm, hS.sl _, hO, h131⟩
  replace hS := hS.lit (t := 26) kr hb
  replace hm := hm.2 hb
  refine oP T hS 3 ⟨[(7, Sl a129 r128.1 c130), (26, B false), (27, V (.agg #[.int .i64 o_.ao, .int .i64 o_.av, .int .i64 o_.aC, .slice a1 o_.Rows.length c1])), (28, Sl a2 l_ c2), (29, Sl a129 r128.1 c130)], []⟩ fun a hS => ?_
  obtain ⟨hq, hm⟩ := hm
  refine op1 (call hS kr kr hb70 kr (fun _ _ => rfl) (Ret.jJ (k70 _ (dt 1005 _) o_ l_ r128.1 a1 c1 a2 c2 a129 c130 hq (h1.m0 (M0.dt 1005)) (h2.m0 (M0.dt 1005)) h131.dt)) ?_)
  intro v148 a w149 X150 hE hp hS
  replace hO := hO.m2 hE
  replace h1 := h1.m1 hE
  replace h2 := h2.m1 hE
  replace h131 := h131.m2 hE
  obtain ⟨_, hp⟩ := hp
  obtain ⟨r151, hr⟩ : ∃ r, c6 o_ l_ r128.1 = r := ⟨_, rfl⟩
  replace hm := hm r151 hr
  rw [hr] at hp
  clear hr
  subst hp
  refine ePb T hS [(7, Sl a129 r128.1 c130), (32, B (!r151))] fun a hS => ?_
  exact ⟨Z, _, r128.1, (!r151), a129, c130, hm, hS.sl _, hO, h131⟩
 rintro a w153 ⟨Z, X152, y143, y147, a144, c145, hm, hS, hO, h146⟩
 unfold VC53_J1 at hm
 refine aG hS (b := y147) kr (fun hb => ?_) fun hb => ?_
 ·replace hm := hm.1 hb
  refine rPb T hS [(4, V (.slice none 0 0)), (5, I 41)] fun a hS => ?_
  refine aU ?_
  exact fin T hS hO (fun c => c) rfl (r := [.slice none 0 0, .int .i64 41]) kr (fun X' hM hC => ⟨([], 41), hm, none, 0, rfl, OS.nil _ _ _ _ _⟩)
 replace hm := hm.2 hb
 refine aJ ?_
 refine rPb T hS [(4, Sl a144 y143 c145), (5, I 0)] fun a hS => ?_
 refine aU ?_
 exact fin T hS hO (zL3d1 col1) rfl (r := [.slice a144 y143.length c145, .int .i64 0]) kr (fun X' hM hC => ⟨(y143, 0), hm, a144, c145, rfl, (OS.out (f := (zL3d1 col1)) h146 hM hC kr)⟩)
theorem C53 (k67 : S67) (k68 : S68) (k69 : S69) (k70 : S70) (v : ∀ (o_ : ai) (l_ : List aa), nh o_ l_ -> VC53 o_ l_ (fun r => r = a9 o_ l_)) : S53 := by
 intro w X o_ l_ a1 c1 a2 c2 col1  hp h1 h2
 refine (W53 k67 k68 k69 k70 w X o_ l_ a1 c1 a2 c2 col1  _ (v o_ l_ hp) h1 h2).mono ?_
 rintro _ _ _ _ ⟨r, rfl, h⟩
 exact h
theorem W50 (w0) (X0) (x_ : al) (Q : Int -> Prop) (hm : VC50 x_ Q) :
  Ret Try.prog 50 #[.agg #[.int .i64 x_.aY, .int .i64 x_.ab, .int .i64 x_.N]] aF w0 X0 (fun w X' v => ∃ r, Q r /\ v = .int .i64 r) := by
 unfold VC50 at hm
 refine enter Try.func50 rfl (vals := [.agg #[.int .i64 x_.aY, .int .i64 x_.ab, .int .i64 x_.N]]) kr ?_
 intro Z a hS hO hM
 refine rM T hS ⟨[(1, Pt 2 0)], [(2, (62, (cE x_)))]⟩ fun Z a w101 X102 hS hE hr => ?_
 replace hO := hO.m2 hE
 clear hE hr
 refine ba ?_
 refine aO ?_
 refine rPb T hS [(1, Pt 2 0), (3, B ((x_.aY != 1) && (x_.aY != 2)))] (sp := [7]) fun a hS => ?_
 refine aG hS (b := ((x_.aY != 1) && (x_.aY != 2))) kr (fun hb => ?_) fun hb => ?_
 ·replace hm := hm.1 hb
  refine rP T hS ⟨[(2, I 8)], []⟩ fun a hS => ?_
  refine aU ?_
  exact fin T hS hO (fun c => c) rfl (r := [.int .i64 8]) kr (fun X' hM hC => ⟨8, hm, rfl⟩)
 replace hm := hm.2 hb
 refine rPb T hS [(1, Pt 2 0), (12, B ((decide (x_.ab < 1)) || (decide (x_.ab > 1000))))] (sp := [16]) fun a hS => ?_
 refine aG hS (b := ((decide (x_.ab < 1)) || (decide (x_.ab > 1000)))) kr (fun hb => ?_) fun hb => ?_
 ·replace hm := hm.1 hb
  refine rP T hS ⟨[(2, I 2)], []⟩ fun a hS => ?_
  refine aU ?_
  exact fin T hS hO (fun c => c) rfl (r := [.int .i64 2]) kr (fun X' hM hC => ⟨2, hm, rfl⟩)
 replace hm := hm.2 hb
 refine rPb T hS [(1, Pt 2 0), (21, B ((x_.aY == 1) && ((decide (x_.N < 0)) || (decide (x_.N ≥ 64)))))] (sp := [25, 29]) fun a hS => ?_
 refine aG hS (b := ((x_.aY == 1) && ((decide (x_.N < 0)) || (decide (x_.N ≥ 64))))) kr (fun hb => ?_) fun hb => ?_
 ·replace hm := hm.1 hb
  refine rP T hS ⟨[(2, I 31)], []⟩ fun a hS => ?_
  refine aU ?_
  exact fin T hS hO (fun c => c) rfl (r := [.int .i64 31]) kr (fun X' hM hC => ⟨31, hm, rfl⟩)
 replace hm := hm.2 hb
 refine rP T hS ⟨[(35, B ((x_.aY == 2) && ((decide (x_.N < 0)) || (decide (x_.N > 1000000)))))], []⟩ (sp := [39, 43]) fun a hS => ?_
 refine aG hS (b := ((x_.aY == 2) && ((decide (x_.N < 0)) || (decide (x_.N > 1000000))))) kr (fun hb => ?_) fun hb => ?_
 ·replace hm := hm.1 hb
  refine rPb T hS [(2, I 7)] fun a hS => ?_
  refine aU ?_
  exact fin T hS hO (fun c => c) rfl (r := [.int .i64 7]) kr (fun X' hM hC => ⟨7, hm, rfl⟩)
 replace hm := hm.2 hb
 refine aJ ?_
 refine rPb T hS [(2, I 0)] fun a hS => ?_
 refine aU ?_
 exact fin T hS hO (fun c => c) rfl (r := [.int .i64 0]) kr (fun X' hM hC => ⟨0, hm, rfl⟩)
theorem C50 (v : ∀ (x_ : al), VC50 x_ (fun r => r = dU x_)) : S50 := by
 intro w X x_    
 refine (W50 w X x_    _ (v x_)).mono ?_
 rintro _ _ _ _ ⟨r, rfl, h⟩
 exact h
theorem W26 (k50 : S50) (w0) (X0) (l_ : List al) (a1) (c1) (Q : Int × Int -> Prop) (hm : VC26 l_ Q) (h1 : RS az w0 X0 a1 l_ c1) :
  Ret Try.prog 26 #[.slice a1 l_.length c1] aF w0 X0 (fun w X' v => ∃ r, Q r /\ v = .tuple #[.int .i64 r.1, .int .i64 r.2]) := by
 unfold VC26 at hm
 replace hm := hm (h1.sm kr)
 refine enter Try.func26 rfl (vals := [.slice a1 l_.length c1]) kr ?_
 intro Z a hS hO hM
 replace h1 := h1.m0 hM
 refine rPb T hS [(0, Sl a1 l_ c1)] fun a hS => ?_
 refine ba ?_
 refine rPb T hS [(0, Sl a1 l_ c1), (10, B (decide ((lN l_) > 10000)))] fun a hS => ?_
 refine aG hS (b := decide ((lN l_) > 10000)) kr (fun hb => ?_) fun hb => ?_
 ·replace hm := hm.1 hb
  refine rPb T hS [(2, I 0), (3, I 3)] fun a hS => ?_
  refine aU ?_
  exact fin T hS hO (fun c => c) rfl (r := [.int .i64 0, .int .i64 3]) kr (fun X' hM hC => ⟨(0, 3), hm, rfl⟩)
 replace hm := hm.2 hb
 refine aJ ?_
 refine bb ?_
 refine op1 (jo kI tI false 1012 hS kr kr ?_)
 intro r101 a w102 X103 hE h104 hS
 replace hO := hO.m2 hE
 replace h1 := h1.m1 hE
 refine ePb T hS [(0, Sl a1 l_ c1), (4, V (.map (some r101)))] fun a hS => ?_
 refine bU (fun a w => ∃ Z X, VC26_J1 l_ Q /\ St Try.f26.ntmps ⟨[(0, Sl a1 l_ c1)], []⟩ Z a w X /\ Old w0 X0 w X /\ RS az w X a1 l_ c1) ?_ ?_
 ·refine rPb T hS [(0, Sl a1 l_ c1), (4, V (.map (some r101))), (12, Sl a1 l_ c1), (13, I (lN l_)), (14, I 0)] fun a hS => ?_
  refine aO ?_
  obtain ⟨I1, μ1, hm0, hm⟩ := hm
  refine b8 (σ := (List (Int × Int)) × Int) (fun s a w => ∃ Z X, I1 s.1 s.2 /\ St Try.f26.ntmps ⟨[(0, Sl a1 l_ c1), (4, V (.map (some r101))), (12, Sl a1 l_ c1), (13, I (lN l_)), (14, I s.2)], []⟩ Z a w X /\ Old w0 X0 w X /\ RS az w X a1 l_ c1 /\ OM kI tI false w X 1012 r101 s.1 /\ RS az w X a1 l_ c1) (fun s => μ1 s.1 s.2) (⟨([] : List (Int × Int)), 0⟩) ?_ ?_
  ·exact ⟨Z, _, hm0, hS.sl _, hO, h1, h104, h1⟩
  rintro ⟨y107, y110⟩ a w124 ⟨Z, X123, hI, hS, hO, h106, h108, h109⟩
  replace hm := hm y107 y110 hI
  clear hI hm0
  refine rPb T hS [(0, Sl a1 l_ c1), (4, V (.map (some r101))), (12, Sl a1 l_ c1), (13, I (lN l_)), (14, I y110), (15, B (decide (y110 < (lN l_))))] fun a hS => ?_
  refine ba ?_
  refine aG hS (b := decide (y110 < (lN l_))) kr (fun hb => ?_) fun hb => ?_
  ·replace hm := hm.1 hb
   refine aJ (ba ?_)
   refine aO ?_
   refine bb ?_
   refine oPb T hS 1 [(0, Sl a1 l_ c1), (4, V (.map (some r101))), (12, Sl a1 l_ c1), (13, I (lN l_)), (14, I y110), (16, I y110)] fun a hS => ?_
   obtain ⟨hq, hm⟩ := hm
   refine op1 (index (e := 62) (k := .i64) T hS kr kr kr kr h109 kr kr hq.1 hq.2 ?_)
   intro A111 a h112 hS
   refine op1 (di T hS kr kr kr h112 kr kr ?_)
   intro v113 a hv hS
   subst hv
   refine eM T hS ⟨[(0, Sl a1 l_ c1), (4, V (.map (some r101))), (5, I y110), (6, Pt 7 0), (12, Sl a1 l_ c1), (13, I (lN l_)), (14, I y110)], [(7, (62, (cE (gi l_ y110))))]⟩ fun Z a w121 X122 hS hE hr => ?_
   replace hO := hO.m2 hE
   replace h106 := h106.m1 hE
   replace h108 := h108.m2 hE
   replace h109 := h109.m1 hE
   clear hE hr
   refine ba ?_
   refine bb ?_
   refine oPb T hS 1 [(0, Sl a1 l_ c1), (4, V (.map (some r101))), (5, I y110), (6, Pt 7 0), (12, Sl a1 l_ c1), (13, I (lN l_)), (14, I y110), (19, V (.agg #[.int .i64 ((gi l_ y110).aY), .int .i64 ((gi l_ y110).ab), .int .i64 ((gi l_ y110).N)]))] fun a hS => ?_
   refine op1 (call hS kr kr hb50 kr (fun _ _ => rfl) (k50 _ _ (gi l_ y110)) ?_)
   intro v114 a w115 X116 hE hp hS
   replace hO := hO.m2 hE
   replace h106 := h106.m1 hE
   replace h108 := h108.m2 hE
   replace h109 := h109.m1 hE
   obtain ⟨r117, hr⟩ : ∃ r, dU (gi l_ y110) = r := ⟨_, rfl⟩
   replace hm := hm r117 hr
   rw [hr] at hp
   clear hr
   subst hp
   refine ePb T hS [(0, Sl a1 l_ c1), (4, V (.map (some r101))), (5, I y110), (6, Pt 7 0), (7, I r117), (12, Sl a1 l_ c1), (13, I (lN l_)), (14, I y110)] fun a hS => ?_
   refine rPb T hS [(0, Sl a1 l_ c1), (4, V (.map (some r101))), (5, I y110), (6, Pt 7 0), (7, I r117), (12, Sl a1 l_ c1), (13, I (lN l_)), (14, I y110), (22, B (r117 != 0))] fun a hS => ?_
   refine aG hS (b := (r117 != 0)) kr (fun hb => ?_) fun hb => ?_
   ·replace hm := hm.1 hb
    refine rP T hS ⟨[(2, I y110), (3, I r117)], []⟩ fun a hS => ?_
    refine aU ?_
    exact fin T hS hO (fun c => c) rfl (r := [.int .i64 y110, .int .i64 r117]) kr (fun X' hM hC => ⟨(y110, r117), hm, rfl⟩)
   replace hm := hm.2 hb
   refine aJ (ba ?_)
   refine bb ?_
   refine oPb T hS 3 [(0, Sl a1 l_ c1), (4, V (.map (some r101))), (5, I y110), (6, Pt 7 0), (12, Sl a1 l_ c1), (13, I (lN l_)), (14, I y110), (25, V (.map (some r101))), (27, I ((gi l_ y110).ab))] fun a hS => ?_
   refine op1 (fM kI tI false (zv := .int .i64 0) (z := 0) ((gi l_ y110).ab) hS kr kr kr kr Try.underlying71 Try.underlying3 kr rfl h108 ?_)
   intro v118 a hv hS
   replace hv : tI.R _ _ [v118] _ := hv
   cases hv
   refine ePb T hS [(0, Sl a1 l_ c1), (4, V (.map (some r101))), (5, I y110), (6, Pt 7 0), (12, Sl a1 l_ c1), (13, I (lN l_)), (14, I y110), (33, B ((((ay y107 ((gi l_ y110).ab)).getD 0) == 1) == (((gi l_ y110).aY) == 1)))] fun a hS => ?_
   refine aG hS (b := ((((ay y107 ((gi l_ y110).ab)).getD 0) == 1) == (((gi l_ y110).aY) == 1))) kr (fun hb => ?_) fun hb => ?_
   ·replace hm := hm.1 hb
    refine rP T hS ⟨[(2, I y110), (3, I 33)], []⟩ fun a hS => ?_
    refine aU ?_
    exact fin T hS hO (fun c => c) rfl (r := [.int .i64 y110, .int .i64 33]) kr (fun X' hM hC => ⟨(y110, 33), hm, rfl⟩)
   replace hm := hm.2 hb
   refine aJ ?_
   refine region ?_
   refine oP T hS 5 ⟨[(0, Sl a1 l_ c1), (4, V (.map (some r101))), (12, Sl a1 l_ c1), (13, I (lN l_)), (14, I y110), (35, V (.map (some r101))), (37, I ((gi l_ y110).ab)), (39, I ((gi l_ y110).aY))], []⟩ fun a hS => ?_
   refine op1 (lA kI tI false (v := I ((gi l_ y110).aY)) (u := (gi l_ y110).aY) ((gi l_ y110).ab) hS kr kr kr kr Try.underlying71 Try.underlying3 kr h108 rfl ?_)
   intro a w119 hE h120 hS
   clear h108
   replace hO := hO.m2 hE
   replace h106 := h106.m1 hE
   replace h109 := h109.m1 hE
   refine eO ?_
   refine region (ePb T hS [(0, Sl a1 l_ c1), (4, V (.map (some r101))), (12, Sl a1 l_ c1), (13, I (lN l_)), (14, I (wR (y110 + 1)))] fun a hS => ?_)
   exact ⟨⟨cg y107 ((gi l_ y110).ab) ((gi l_ y110).aY), wR (y110 + 1)⟩, ⟨Z, _, hm.1, hS.sl _, hO, h106, h120, h109⟩, hm.2⟩
  replace hm := hm.2 hb
  refine b0 (by rfl) ?_
  exact ⟨Z, _, hm, hS.sl _, hO, h106⟩
 rintro a w126 ⟨Z, X125, hm, hS, hO, h105⟩
 unfold VC26_J1 at hm
 refine rPb T hS [(2, I (lN l_)), (3, I 0)] fun a hS => ?_
 refine aU ?_
 exact fin T hS hO (fun c => c) rfl (r := [.int .i64 (lN l_), .int .i64 0]) kr (fun X' hM hC => ⟨((lN l_), 0), hm, rfl⟩)
theorem C26 (k50 : S50) (v : ∀ (l_ : List al), VC26 l_ (fun r => r = bB l_)) : S26 := by
 intro w X l_ a1 c1   h1
 refine (W26 k50 w X l_ a1 c1   _ (v l_) h1).mono ?_
 rintro _ _ _ _ ⟨r, rfl, h⟩
 exact h
theorem W66 (w0) (X0) (l_ : List al) (process : Int) (a1) (c1) (Q : Int -> Prop) (hm : VC66 l_ process Q) (h1 : RS az w0 X0 a1 l_ c1) :
  Ret Try.prog 66 #[.slice a1 l_.length c1, .int .i64 process] aF w0 X0 (fun w X' v => ∃ r, Q r /\ v = .int .i64 r) := by
 unfold VC66 at hm
 replace hm := hm (h1.sm kr)
 refine enter Try.func66 rfl (vals := [.slice a1 l_.length c1, .int .i64 process]) kr ?_
 intro Z a hS hO hM
 replace h1 := h1.m0 hM
 refine rPb T hS [(0, Sl a1 l_ c1), (1, I process)] fun a hS => ?_
 refine rPb T hS [(0, Sl a1 l_ c1), (1, I process), (5, I (-1))] fun a hS => ?_
 refine bU (fun a w => ∃ (Z : Nat -> Nat) (X : Nat -> Nat) (y101 : Int), VC66_J1 Q y101 /\ St Try.f66.ntmps ⟨[(5, I y101)], []⟩ Z a w X /\ Old w0 X0 w X) ?_ ?_
 ·refine rPb T hS [(0, Sl a1 l_ c1), (1, I process), (5, I (-1)), (6, I 0)] fun a hS => ?_
  refine aO ?_
  obtain ⟨I1, μ1, hm0, hm⟩ := hm
  refine b8 (σ := Int × Int) (fun s a w => ∃ Z X, I1 s.1 s.2 /\ St Try.f66.ntmps ⟨[(0, Sl a1 l_ c1), (1, I process), (5, I s.1), (6, I s.2)], []⟩ Z a w X /\ Old w0 X0 w X /\ RS az w X a1 l_ c1) (fun s => μ1 s.1 s.2) (⟨(-1), 0⟩) ?_ ?_
  ·exact ⟨Z, _, hm0, hS.sl _, hO, h1⟩
  rintro ⟨y103, y104⟩ a w115 ⟨Z, X114, hI, hS, hO, h102⟩
  replace hm := hm y103 y104 hI
  clear hI hm0
  refine ba ?_
  refine rPb T hS [(0, Sl a1 l_ c1), (1, I process), (5, I y103), (6, I y104), (10, B (decide (y104 < (lN l_))))] fun a hS => ?_
  refine aG hS (b := decide (y104 < (lN l_))) kr (fun hb => ?_) fun hb => ?_
  ·replace hm := hm.1 hb
   refine aJ ?_
   refine bU (fun a w => ∃ (Z : Nat -> Nat) (X : Nat -> Nat) (y106 : Int), VC66_J2 I1 μ1 y103 y104 y106 /\ St Try.f66.ntmps ⟨[(0, Sl a1 l_ c1), (1, I process), (5, I y106), (6, I y104)], []⟩ Z a w X /\ Old w0 X0 w X /\ RS az w X a1 l_ c1) ?_ ?_
   ·refine aO ?_
    refine bb ?_
    refine oPb T hS 2 [(0, Sl a1 l_ c1), (1, I process), (5, I y103), (6, I y104), (13, Sl a1 l_ c1), (14, I y104)] fun a hS => ?_
    obtain ⟨hq, hm⟩ := hm
    refine op1 (index (e := 62) (k := .i64) T hS kr kr kr kr h102 kr kr hq.1 hq.2 ?_)
    intro A107 a h108 hS
    refine op1 (fa (off := 1) (fsz := 1) (ft := 3) (TF := tI) (y := (gi l_ y104).ab) T hS kr kr kr h108 kr kr kr (fun cs h => eI h) ?_)
    intro A109 a h110 hS
    refine op1 (ec T hS kr kr kr h110 rfl kr ?_)
    intro v111 a hv hS
    cases hv
    refine ePb T hS [(0, Sl a1 l_ c1), (1, I process), (5, I y103), (6, I y104), (19, B (((gi l_ y104).ab) == process))] fun a hS => ?_
    refine aG hS (b := (((gi l_ y104).ab) == process)) kr (fun hb => ?_) fun hb => ?_
    ·replace hm := hm.1 hb
     refine region (ePb T hS [(0, Sl a1 l_ c1), (1, I process), (5, I y104), (6, I y104)] fun a hS => ?_)
     exact ⟨Z, _, y104, hm, hS.sl _, hO, h102⟩
    replace hm := hm.2 hb
    refine aJ ?_
    exact ⟨Z, _, y103, hm, hS.sl _, hO, h102⟩
   rintro a w113 ⟨Z, X112, y106, hm, hS, hO, h105⟩
   unfold VC66_J2 at hm
   refine region (ePb T hS [(0, Sl a1 l_ c1), (1, I process), (5, I y106), (6, I (wR (y104 + 1)))] fun a hS => ?_)
   exact ⟨⟨y106, wR (y104 + 1)⟩, ⟨Z, _, hm.1, hS.sl _, hO, h105⟩, hm.2⟩
  replace hm := hm.2 hb
  refine b0 (by rfl) ?_
  exact ⟨Z, _, y103, hm, hS.sl _, hO⟩
 rintro a w117 ⟨Z, X116, y101, hm, hS, hO⟩
 unfold VC66_J1 at hm
 refine rPb T hS [(4, I y101)] fun a hS => ?_
 refine aU ?_
 exact fin T hS hO (fun c => c) rfl (r := [.int .i64 y101]) kr (fun X' hM hC => ⟨y101, hm, rfl⟩)
theorem C66 (v : ∀ (l_ : List al) (process : Int), VC66 l_ process (fun r => r = eT l_ process)) : S66 := by
 intro w X l_ process a1 c1   h1
 refine (W66 w X l_ process a1 c1   _ (v l_ process) h1).mono ?_
 rintro _ _ _ _ ⟨r, rfl, h⟩
 exact h
theorem W51 (k66 : S66) (w0) (X0) (l_ : List al) (process : Int) (a1) (c1) (Q : Bool -> Prop) (hm : VC51 l_ process Q) (h1 : RS az w0 X0 a1 l_ c1) :
  Ret Try.prog 51 #[.slice a1 l_.length c1, .int .i64 process] aF w0 X0 (fun w X' v => ∃ r, Q r /\ v = .bool r) := by
 unfold VC51 at hm
 replace hm := hm (h1.sm kr)
 refine enter Try.func51 rfl (vals := [.slice a1 l_.length c1, .int .i64 process]) kr ?_
 intro Z a hS hO hM
 replace h1 := h1.m0 hM
 refine rPb T hS [(0, Sl a1 l_ c1), (1, I process)] fun a hS => ?_
 refine bb ?_
 refine oPb T hS 2 [(0, Sl a1 l_ c1), (6, Sl a1 l_ c1), (7, I process)] fun a hS => ?_
 refine op1 (call hS kr kr hb66 kr (fun _ _ => rfl) (k66 _ _ l_ process a1 c1 h1) ?_)
 intro v101 a w102 X103 hE hp hS
 replace hO := hO.m2 hE
 replace h1 := h1.m1 hE
 obtain ⟨r104, hr⟩ : ∃ r, eT l_ process = r := ⟨_, rfl⟩
 replace hm := hm r104 hr
 rw [hr] at hp
 clear hr
 subst hp
 refine ePb T hS [(0, Sl a1 l_ c1), (5, I r104)] fun a hS => ?_
 refine bb ?_
 refine oPb T hS 3 [(0, Sl a1 l_ c1), (5, I r104), (11, B (decide (r104 ≥ 0)))] fun a hS => ?_
 rcases bft (decide (r104 ≥ 0)) with hb | hb
 ·replace hS := hS.lit (t := 11) kr hb
  replace hm := hm.1 hb
  refine oPb T hS 2 [(11, B true), (12, Sl a1 l_ c1), (13, I r104)] fun a hS => ?_
  obtain ⟨hq, hm⟩ := hm
  refine op1 (index (e := 62) (k := .i64) T hS kr kr kr kr h1 kr kr hq.1 hq.2 ?_)
  intro A105 a h106 hS
  refine op1 (fa (off := 0) (fsz := 1) (ft := 3) (TF := tI) (y := (gi l_ r104).aY) T hS kr kr kr h106 kr kr kr (fun cs h => iQ h) ?_)
  intro A107 a h108 hS
  refine op1 (ec T hS kr kr kr h108 rfl kr ?_)
  intro v109 a hv hS
  cases hv
  refine ePb T hS [(4, B (((gi l_ r104).aY) == 1))] fun a hS => ?_
  refine aU ?_
  exact fin T hS hO (fun c => c) rfl (r := [.bool (((gi l_ r104).aY) == 1)]) kr (fun X' hM hC => ⟨(((gi l_ r104).aY) == 1), hm, rfl⟩)
 replace hS := hS.lit (t := 11) kr hb
 replace hm := hm.2 hb
 refine ePb T hS [(4, B false)] fun a hS => ?_
 refine aU ?_
 exact fin T hS hO (fun c => c) rfl (r := [.bool false]) kr (fun X' hM hC => ⟨false, hm, rfl⟩)
theorem C51 (k66 : S66) (v : ∀ (l_ : List al) (process : Int), VC51 l_ process (fun r => r = dw l_ process)) : S51 := by
 intro w X l_ process a1 c1   h1
 refine (W51 k66 w X l_ process a1 c1   _ (v l_ process) h1).mono ?_
 rintro _ _ _ _ ⟨r, rfl, h⟩
 exact h
theorem W29 (k51 : S51) (w0) (X0) (l_ : List al) (a1) (c1) (Q : Int × Int -> Prop) (hm : VC29 l_ Q) (h1 : RS az w0 X0 a1 l_ c1) :
  Ret Try.prog 29 #[.slice a1 l_.length c1] aF w0 X0 (fun w X' v => ∃ r, Q r /\ v = .tuple #[.int .i64 r.1, .int .i64 r.2]) := by
 unfold VC29 at hm
 replace hm := hm (h1.sm kr)
 refine enter Try.func29 rfl (vals := [.slice a1 l_.length c1]) kr ?_
 intro Z a hS hO hM
 replace h1 := h1.m0 hM
 refine rPb T hS [(0, Sl a1 l_ c1)] fun a hS => ?_
 refine ba ?_
 refine rPb T hS [(0, Sl a1 l_ c1), (8, B (decide ((lN l_) > 10000)))] fun a hS => ?_
 refine aG hS (b := decide ((lN l_) > 10000)) kr (fun hb => ?_) fun hb => ?_
 ·replace hm := hm.1 hb
  refine rPb T hS [(2, I 0), (3, I 3)] fun a hS => ?_
  refine aU ?_
  exact fin T hS hO (fun c => c) rfl (r := [.int .i64 0, .int .i64 3]) kr (fun X' hM hC => ⟨(0, 3), hm, rfl⟩)
 replace hm := hm.2 hb
 refine aJ ?_
 refine bU (fun a w => ∃ Z X, VC29_J1 l_ Q /\ St Try.f29.ntmps ⟨[(0, Sl a1 l_ c1)], []⟩ Z a w X /\ Old w0 X0 w X /\ RS az w X a1 l_ c1) ?_ ?_
 ·refine rPb T hS [(0, Sl a1 l_ c1), (4, I 0)] fun a hS => ?_
  refine aO ?_
  obtain ⟨I1, μ1, hm0, hm⟩ := hm
  refine b8 (σ := Int) (fun s a w => ∃ Z X, I1 s /\ St Try.f29.ntmps ⟨[(0, Sl a1 l_ c1), (4, I s)], []⟩ Z a w X /\ Old w0 X0 w X /\ RS az w X a1 l_ c1) (fun s => μ1 s) (0) ?_ ?_
  ·exact ⟨Z, _, hm0, hS.sl _, hO, h1⟩
  rintro y103 a w137 ⟨Z, X136, hI, hS, hO, h102⟩
  replace hm := hm y103 hI
  clear hI hm0
  refine ba ?_
  refine rPb T hS [(0, Sl a1 l_ c1), (4, I y103), (12, B (decide (y103 < (lN l_))))] fun a hS => ?_
  refine aG hS (b := decide (y103 < (lN l_))) kr (fun hb => ?_) fun hb => ?_
  ·replace hm := hm.1 hb
   refine aJ (ba ?_)
   refine aO ?_
   refine bb ?_
   refine oPb T hS 2 [(0, Sl a1 l_ c1), (4, I y103), (15, Sl a1 l_ c1), (16, I y103)] fun a hS => ?_
   obtain ⟨hq, hm⟩ := hm
   refine op1 (index (e := 62) (k := .i64) T hS kr kr kr kr h102 kr kr hq.1 hq.2 ?_)
   intro A104 a h105 hS
   refine op1 (di T hS kr kr kr h105 kr kr ?_)
   intro v106 a hv hS
   subst hv
   refine eM T hS ⟨[(0, Sl a1 l_ c1), (4, I y103), (5, Pt 6 0)], [(6, (62, (cE (gi l_ y103))))]⟩ fun Z a w134 X135 hS hE hr => ?_
   replace hO := hO.m2 hE
   replace h102 := h102.m1 hE
   clear hE hr
   refine ba ?_
   refine rPb T hS [(0, Sl a1 l_ c1), (4, I y103), (5, Pt 6 0), (26, B ((((gi l_ y103).aY) != 1) && (((gi l_ y103).aY) != 2)))] (sp := [22]) fun a hS => ?_
   refine aG hS (b := ((((gi l_ y103).aY) != 1) && (((gi l_ y103).aY) != 2))) kr (fun hb => ?_) fun hb => ?_
   ·replace hm := hm.1 hb
    refine rP T hS ⟨[(2, I y103), (3, I 8)], []⟩ fun a hS => ?_
    refine aU ?_
    exact fin T hS hO (fun c => c) rfl (r := [.int .i64 y103, .int .i64 8]) kr (fun X' hM hC => ⟨(y103, 8), hm, rfl⟩)
   replace hm := hm.2 hb
   refine aJ (ba ?_)
   refine rPb T hS [(0, Sl a1 l_ c1), (4, I y103), (5, Pt 6 0), (35, B ((decide (((gi l_ y103).ab) < 1)) || (decide (((gi l_ y103).ab) > 1000))))] (sp := [31]) fun a hS => ?_
   refine aG hS (b := ((decide (((gi l_ y103).ab) < 1)) || (decide (((gi l_ y103).ab) > 1000)))) kr (fun hb => ?_) fun hb => ?_
   ·replace hm := hm.1 hb
    refine rP T hS ⟨[(2, I y103), (3, I 2)], []⟩ fun a hS => ?_
    refine aU ?_
    exact fin T hS hO (fun c => c) rfl (r := [.int .i64 y103, .int .i64 2]) kr (fun X' hM hC => ⟨(y103, 2), hm, rfl⟩)
   replace hm := hm.2 hb
   refine aJ (ba ?_)
   refine rPb T hS [(0, Sl a1 l_ c1), (4, I y103), (5, Pt 6 0), (49, B ((((gi l_ y103).aY) == 1) && ((decide (((gi l_ y103).N) < 0)) || (decide (((gi l_ y103).N) > 63)))))] (sp := [40, 44]) fun a hS => ?_
   refine aG hS (b := ((((gi l_ y103).aY) == 1) && ((decide (((gi l_ y103).N) < 0)) || (decide (((gi l_ y103).N) > 63))))) kr (fun hb => ?_) fun hb => ?_
   ·replace hm := hm.1 hb
    refine rP T hS ⟨[(2, I y103), (3, I 31)], []⟩ fun a hS => ?_
    refine aU ?_
    exact fin T hS hO (fun c => c) rfl (r := [.int .i64 y103, .int .i64 31]) kr (fun X' hM hC => ⟨(y103, 31), hm, rfl⟩)
   replace hm := hm.2 hb
   refine aJ (ba ?_)
   refine rPb T hS [(0, Sl a1 l_ c1), (4, I y103), (5, Pt 6 0), (63, B ((((gi l_ y103).aY) == 2) && ((decide (((gi l_ y103).N) < 0)) || (decide (((gi l_ y103).N) > 1000000)))))] (sp := [54, 58]) fun a hS => ?_
   refine aG hS (b := ((((gi l_ y103).aY) == 2) && ((decide (((gi l_ y103).N) < 0)) || (decide (((gi l_ y103).N) > 1000000))))) kr (fun hb => ?_) fun hb => ?_
   ·replace hm := hm.1 hb
    refine rP T hS ⟨[(2, I y103), (3, I 7)], []⟩ fun a hS => ?_
    refine aU ?_
    exact fin T hS hO (fun c => c) rfl (r := [.int .i64 y103, .int .i64 7]) kr (fun X' hM hC => ⟨(y103, 7), hm, rfl⟩)
   replace hm := hm.2 hb
   refine aJ ?_
   refine bU (fun a w => ∃ (Z : Nat -> Nat) (X : Nat -> Nat) (y108 : Bool), VC29_J2 Q I1 μ1 y103 y108 /\ St Try.f29.ntmps ⟨[(0, Sl a1 l_ c1), (4, I y103), (89, B y108)], []⟩ Z a w X /\ Old w0 X0 w X /\ RS az w X a1 l_ c1) ?_ ?_
   ·refine fj [6] mixed hS ?_
    intro w109 X110 hS hE hD hH
    replace hO := hO.m2 hE
    replace h102 := h102.m1 hE
    refine tkb T [0, 1, 2, 3] [6] hS hH #[true, true, true, true, false, false, false, false, false, false, false, false, false, false, false, false, false, false, false, false, false, false, false, false, false] 21 [(0, Sl a1 l_ c1), (4, I y103), (5, Pt 6 0), (68, B (((gi l_ y103).aY) == 1))] fun a hS => ?_
    rcases bft (((gi l_ y103).aY) == 1) with hb | hb
    ·replace hS := hS.lit (t := 68) kr hb
     replace hm := hm.1 hb
     refine tkb T [4, 5, 7, 8] [6] hS hH #[true, true, true, true, true, true, false, true, true, false, false, false, false, false, false, false, false, false, false, false, false, false, false, false, false] 17 [(0, Sl a1 l_ c1), (4, I y103), (5, Pt 6 0), (68, B true), (69, Sl a1 l_ c1), (70, I y103), (73, I ((gi l_ y103).ab))] fun a hS => ?_
     obtain ⟨hq, hm⟩ := hm
     refine lM (E := 62) (kh := .i64) T 6 hS kr kr kr (by rfl) kr hH kr kr h102 kr kr hq.1 hq.2 ?_
     intro a111 c112 a h113 hS
     refine only 9 kr (by rfl) (call hS kr kr hb51 kr (fun _ _ => rfl) (k51 _ _ (l_.take y103.toNat) ((gi l_ y103).ab) a111 c112 h113) ?_)
     intro v114 a w115 X116 hE hp hS
     replace hO := hO.m2 hE
     replace hD := hD.ev hE rfl
     replace h102 := h102.m1 hE
     replace h113 := h113.m1 hE
     obtain ⟨r117, hr⟩ : ∃ r, dw (l_.take y103.toNat) ((gi l_ y103).ab) = r := ⟨_, rfl⟩
     replace hm := hm r117 hr
     rw [hr] at hp
     clear hr
     subst hp
     replace hS := hS.slb [(0, Sl a1 l_ c1), (4, I y103), (5, Pt 6 0), (68, B true), (69, Sl a1 l_ c1), (70, I y103), (73, I ((gi l_ y103).ab)), (71, Sl a111 (l_.take y103.toNat) c112), (74, B r117)]
     refine bX (bl.of hS (bks := [6]) kr hD) ?_
     intro hH
     refine tkb T [10, 11] [6] hS hH #[true, true, true, true, true, true, true, true, true, true, true, true, false, false, false, false, false, false, false, false, false, false, false, false, false] 13 [(0, Sl a1 l_ c1), (4, I y103), (5, Pt 6 0), (76, B r117)] fun a hS => ?_
     rcases bft r117 with hb | hb
     ·replace hS := hS.lit (t := 76) kr hb
      replace hm := hm.1 hb
      refine tkb T [12, 13, 14, 15, 16, 17, 19, 18, 20, 21, 22, 23, 24] [6] hS hH (tts 25) 0 [(0, Sl a1 l_ c1), (4, I y103), (89, B true)] fun a hS => ?_
      refine aM kr ?_
      replace hS := hS.sl ⟨[(0, Sl a1 l_ c1), (4, I y103), (89, B true)], []⟩
      exact ⟨Z, _, true, hm, hS.sl _, hO, h102⟩
     replace hS := hS.lit (t := 76) kr hb
     replace hm := hm.2 hb
     refine tkb T [12, 13, 14, 15] [6] hS hH #[true, true, true, true, true, true, true, true, true, true, true, true, true, true, true, true, false, false, false, false, false, false, false, false, false] 9 [(0, Sl a1 l_ c1), (4, I y103), (5, Pt 6 0), (76, B false), (80, B (((gi l_ y103).aY) == 2))] fun a hS => ?_
     rcases bft (((gi l_ y103).aY) == 2) with hb | hb
     ·replace hS := hS.lit (t := 80) kr hb
      replace hm := hm.1 hb
      refine tkb T [16, 17, 19, 20] [6] hS hH #[true, true, true, true, true, true, true, true, true, true, true, true, true, true, true, true, true, true, false, true, true, false, false, false, false] 5 [(0, Sl a1 l_ c1), (4, I y103), (76, B false), (80, B true), (81, Sl a1 l_ c1), (82, I y103), (85, I ((gi l_ y103).ab))] fun a hS => ?_
      obtain ⟨hq, hm⟩ := hm
      refine lM (E := 62) (kh := .i64) T 18 hS kr kr kr (by rfl) kr hH kr kr h102 kr kr hq.1 hq.2 ?_
      intro a118 c119 a h120 hS
      refine only 21 kr (by rfl) (call hS kr kr hb51 kr (fun _ _ => rfl) (k51 _ _ (l_.take y103.toNat) ((gi l_ y103).ab) a118 c119 h120) ?_)
      intro v121 a w122 X123 hE hp hS
      replace hO := hO.m2 hE
      replace hD := hD.ev hE rfl
      replace h102 := h102.m1 hE
      replace h113 := h113.m1 hE
      replace h120 := h120.m1 hE
      obtain ⟨r124, hr⟩ : ∃ r, dw (l_.take y103.toNat) ((gi l_ y103).ab) = r := ⟨_, rfl⟩
      replace hm := hm r124 hr
      rw [hr] at hp
      clear hr
      subst hp
      replace hS := hS.slb [(0, Sl a1 l_ c1), (4, I y103), (76, B false), (80, B true), (81, Sl a1 l_ c1), (82, I y103), (85, I ((gi l_ y103).ab)), (83, Sl a118 (l_.take y103.toNat) c119), (86, B r124)]
      refine bX (bl.of hS (bks := [6]) kr hD) ?_
      intro hH
      refine tkb T [22, 23, 24] [6] hS hH (tts 25) 0 [(0, Sl a1 l_ c1), (4, I y103), (89, B (!r124))] fun a hS => ?_
      refine aM kr ?_
      replace hS := hS.sl ⟨[(0, Sl a1 l_ c1), (4, I y103), (89, B (!r124))], []⟩
      exact ⟨Z, _, (!r124), hm, hS.sl _, hO, h102⟩
     replace hS := hS.lit (t := 80) kr hb
     replace hm := hm.2 hb
     refine tkb T [16, 17, 19, 18, 20, 21, 22, 23, 24] [6] hS hH (tts 25) 0 [(0, Sl a1 l_ c1), (4, I y103), (89, B false)] fun a hS => ?_
     refine aM kr ?_
     replace hS := hS.sl ⟨[(0, Sl a1 l_ c1), (4, I y103), (89, B false)], []⟩
     exact ⟨Z, _, false, hm, hS.sl _, hO, h102⟩
    replace hS := hS.lit (t := 68) kr hb
    replace hm := hm.2 hb
    refine tkb T [4, 5, 7, 6, 8, 9, 10, 11, 12, 13, 14, 15] [6] hS hH #[true, true, true, true, true, true, true, true, true, true, true, true, true, true, true, true, false, false, false, false, false, false, false, false, false] 9 [(0, Sl a1 l_ c1), (4, I y103), (5, Pt 6 0), (76, B false), (80, B (((gi l_ y103).aY) == 2))] fun a hS => ?_
    rcases bft (((gi l_ y103).aY) == 2) with hb | hb
    ·replace hS := hS.lit (t := 80) kr hb
     replace hm := hm.1 hb
     refine tkb T [16, 17, 19, 20] [6] hS hH #[true, true, true, true, true, true, true, true, true, true, true, true, true, true, true, true, true, true, false, true, true, false, false, false, false] 5 [(0, Sl a1 l_ c1), (4, I y103), (76, B false), (80, B true), (81, Sl a1 l_ c1), (82, I y103), (85, I ((gi l_ y103).ab))] fun a hS => ?_
     obtain ⟨hq, hm⟩ := hm
     refine lM (E := 62) (kh := .i64) T 18 hS kr kr kr (by rfl) kr hH kr kr h102 kr kr hq.1 hq.2 ?_
     intro a125 c126 a h127 hS
     refine only 21 kr (by rfl) (call hS kr kr hb51 kr (fun _ _ => rfl) (k51 _ _ (l_.take y103.toNat) ((gi l_ y103).ab) a125 c126 h127) ?_)
     intro v128 a w129 X130 hE hp hS
     replace hO := hO.m2 hE
     replace hD := hD.ev hE rfl
     replace h102 := h102.m1 hE
     replace h127 := h127.m1 hE
     obtain ⟨r131, hr⟩ : ∃ r, dw (l_.take y103.toNat) ((gi l_ y103).ab) = r := ⟨_, rfl⟩
     replace hm := hm r131 hr
     rw [hr] at hp
     clear hr
     subst hp
     replace hS := hS.slb [(0, Sl a1 l_ c1), (4, I y103), (76, B false), (80, B true), (81, Sl a1 l_ c1), (82, I y103), (85, I ((gi l_ y103).ab)), (83, Sl a125 (l_.take y103.toNat) c126), (86, B r131)]
     refine bX (bl.of hS (bks := [6]) kr hD) ?_
     intro hH
     refine tkb T [22, 23, 24] [6] hS hH (tts 25) 0 [(0, Sl a1 l_ c1), (4, I y103), (89, B (!r131))] fun a hS => ?_
     refine aM kr ?_
     replace hS := hS.sl ⟨[(0, Sl a1 l_ c1), (4, I y103), (89, B (!r131))], []⟩
     exact ⟨Z, _, (!r131), hm, hS.sl _, hO, h102⟩
    replace hS := hS.lit (t := 80) kr hb
    replace hm := hm.2 hb
    refine tkb T [16, 17, 19, 18, 20, 21, 22, 23, 24] [6] hS hH (tts 25) 0 [(0, Sl a1 l_ c1), (4, I y103), (89, B false)] fun a hS => ?_
    refine aM kr ?_
    replace hS := hS.sl ⟨[(0, Sl a1 l_ c1), (4, I y103), (89, B false)], []⟩
    exact ⟨Z, _, false, hm, hS.sl _, hO, h102⟩
   rintro a w133 ⟨Z, X132, y108, hm, hS, hO, h107⟩
   unfold VC29_J2 at hm
   refine aG hS (b := y108) kr (fun hb => ?_) fun hb => ?_
   ·replace hm := hm.1 hb
    refine rPb T hS [(2, I y103), (3, I 33)] fun a hS => ?_
    refine aU ?_
    exact fin T hS hO (fun c => c) rfl (r := [.int .i64 y103, .int .i64 33]) kr (fun X' hM hC => ⟨(y103, 33), hm, rfl⟩)
   replace hm := hm.2 hb
   refine aJ ?_
   refine region (ePb T hS [(0, Sl a1 l_ c1), (4, I (wR (y103 + 1)))] fun a hS => ?_)
   exact ⟨wR (y103 + 1), ⟨Z, _, hm.1, hS.sl _, hO, h107⟩, hm.2⟩
  replace hm := hm.2 hb
  refine b0 (by rfl) ?_
  exact ⟨Z, _, hm, hS.sl _, hO, h102⟩
 rintro a w139 ⟨Z, X138, hm, hS, hO, h101⟩
 unfold VC29_J1 at hm
 refine rPb T hS [(2, I (lN l_)), (3, I 0)] fun a hS => ?_
 refine aU ?_
 exact fin T hS hO (fun c => c) rfl (r := [.int .i64 (lN l_), .int .i64 0]) kr (fun X' hM hC => ⟨((lN l_), 0), hm, rfl⟩)
theorem C29 (k51 : S51) (v : ∀ (l_ : List al), VC29 l_ (fun r => r = dg l_)) : S29 := by
 intro w X l_ a1 c1   h1
 refine (W29 k51 w X l_ a1 c1   _ (v l_) h1).mono ?_
 rintro _ _ _ _ ⟨r, rfl, h⟩
 exact h
theorem W15 (w0) (X0) (a_ : List al) (b_ : List al) (a1) (c1) (a2) (c2) (Q : Bool -> Prop) (hm : VC15 a_ b_ Q) (h1 : RS az w0 X0 a1 a_ c1) (h2 : RS az w0 X0 a2 b_ c2) :
  Ret Try.prog 15 #[.slice a1 a_.length c1, .slice a2 b_.length c2] aF w0 X0 (fun w X' v => ∃ r, Q r /\ v = .bool r) := by
 unfold VC15 at hm
 replace hm := hm (h1.sm kr)
 replace hm := hm (h2.sm kr)
 refine enter Try.func15 rfl (vals := [.slice a1 a_.length c1, .slice a2 b_.length c2]) kr ?_
 intro Z a hS hO hM
 replace h1 := h1.m0 hM
 replace h2 := h2.m0 hM
 refine rPb T hS [(0, Sl a1 a_ c1), (1, Sl a2 b_ c2)] fun a hS => ?_
 refine ba ?_
 refine rPb T hS [(0, Sl a1 a_ c1), (1, Sl a2 b_ c2), (10, B ((lN a_) != (lN b_)))] fun a hS => ?_
 refine aG hS (b := ((lN a_) != (lN b_))) kr (fun hb => ?_) fun hb => ?_
 ·replace hm := hm.1 hb
  refine rPb T hS [(4, B false)] fun a hS => ?_
  refine aU ?_
  exact fin T hS hO (fun c => c) rfl (r := [.bool false]) kr (fun X' hM hC => ⟨false, hm, rfl⟩)
 replace hm := hm.2 hb
 refine aJ ?_
 refine bU (fun a w => ∃ Z X, VC15_J1 Q /\ St Try.f15.ntmps ⟨[], []⟩ Z a w X /\ Old w0 X0 w X) ?_ ?_
 ·refine rPb T hS [(0, Sl a1 a_ c1), (1, Sl a2 b_ c2), (5, I 0)] fun a hS => ?_
  refine aO ?_
  obtain ⟨I1, μ1, hm0, hm⟩ := hm
  refine b8 (σ := Int) (fun s a w => ∃ Z X, I1 s /\ St Try.f15.ntmps ⟨[(0, Sl a1 a_ c1), (1, Sl a2 b_ c2), (5, I s)], []⟩ Z a w X /\ Old w0 X0 w X /\ RS az w X a1 a_ c1 /\ RS az w X a2 b_ c2) (fun s => μ1 s) (0) ?_ ?_
  ·exact ⟨Z, _, hm0, hS.sl _, hO, h1, h2⟩
  rintro y103 a w113 ⟨Z, X112, hI, hS, hO, h101, h102⟩
  replace hm := hm y103 hI
  clear hI hm0
  refine ba ?_
  refine rPb T hS [(0, Sl a1 a_ c1), (1, Sl a2 b_ c2), (5, I y103), (14, B (decide (y103 < (lN a_))))] fun a hS => ?_
  refine aG hS (b := decide (y103 < (lN a_))) kr (fun hb => ?_) fun hb => ?_
  ·replace hm := hm.1 hb
   refine aJ (ba ?_)
   refine aO ?_
   refine ct [] mixed hS ?_
   intro w104 X105 hS hE hD hH
   replace hO := hO.m2 hE
   replace h101 := h101.m1 hE
   replace h102 := h102.m1 hE
   refine tkb T [0, 1, 4, 5] [] hS hH #[true, true, false, false, true, true, false, false, false] 5 [(0, Sl a1 a_ c1), (1, Sl a2 b_ c2), (5, I y103), (17, Sl a1 a_ c1), (18, I y103), (21, Sl a2 b_ c2), (22, I y103)] fun a hS => ?_
   obtain ⟨hq, hm⟩ := hm
   refine cD (e := 62) (k := .i64) T 2 hS kr kr kr (by rfl) kr hH kr kr h101 kr kr hq.1 hq.2 ?_
   intro A106 a h107 hS
   have h107b := h107.here
   refine fB T 3 hS kr kr kr (by rfl) kr hH kr h107 h107b kr kr ?_
   intro v108 a hv hS
   subst hv
   obtain ⟨hq, hm⟩ := hm
   refine cD (e := 62) (k := .i64) T 6 hS kr kr kr (by rfl) kr hH kr kr h102 kr kr hq.1 hq.2 ?_
   intro A109 a h110 hS
   have h110b := h110.here
   refine fB T 7 hS kr kr kr (by rfl) kr hH kr h110 h110b kr kr ?_
   intro v111 a hv hS
   subst hv
   refine jf (op := .neq) (xs := [.int .i64 ((gi a_ y103).aY), .int .i64 ((gi a_ y103).ab), .int .i64 ((gi a_ y103).N)]) (ys := [.int .i64 ((gi b_ y103).aY), .int .i64 ((gi b_ y103).ab), .int .i64 ((gi b_ y103).N)]) (r := (((gi a_ y103).aY) == ((gi b_ y103).aY) && (((gi a_ y103).ab) == ((gi b_ y103).ab) && (((gi a_ y103).N) == ((gi b_ y103).N) && true)))) (b := (!(((gi a_ y103).aY) == ((gi b_ y103).aY) && (((gi a_ y103).ab) == ((gi b_ y103).ab) && (((gi a_ y103).N) == ((gi b_ y103).N) && true))))) 8 T hS kr kr kr (by rfl) kr hH kr kr kr kr kr kr ?_
   intro a hS
   refine aM kr ?_
   replace hS := hS.slb [(0, Sl a1 a_ c1), (1, Sl a2 b_ c2), (5, I y103), (25, B (!(((gi a_ y103).aY) == ((gi b_ y103).aY) && (((gi a_ y103).ab) == ((gi b_ y103).ab) && (((gi a_ y103).N) == ((gi b_ y103).N) && true)))))]
   refine aG hS (b := (!(((gi a_ y103).aY) == ((gi b_ y103).aY) && (((gi a_ y103).ab) == ((gi b_ y103).ab) && (((gi a_ y103).N) == ((gi b_ y103).N) && true))))) kr (fun hb => ?_) fun hb => ?_
   ·replace hm := hm.1 hb
    refine rPb T hS [(4, B false)] fun a hS => ?_
    refine aU ?_
    exact fin T hS hO (fun c => c) rfl (r := [.bool false]) kr (fun X' hM hC => ⟨false, hm, rfl⟩)
   replace hm := hm.2 hb
   refine aJ ?_
   refine region (ePb T hS [(0, Sl a1 a_ c1), (1, Sl a2 b_ c2), (5, I (wR (y103 + 1)))] fun a hS => ?_)
   exact ⟨wR (y103 + 1), ⟨Z, _, hm.1, hS.sl _, hO, h101, h102⟩, hm.2⟩
  replace hm := hm.2 hb
  refine b0 (by rfl) ?_
  exact ⟨Z, _, hm, hS.sl _, hO⟩
 rintro a w115 ⟨Z, X114, hm, hS, hO⟩
 unfold VC15_J1 at hm
 refine rPb T hS [(4, B true)] fun a hS => ?_
 refine aU ?_
 exact fin T hS hO (fun c => c) rfl (r := [.bool true]) kr (fun X' hM hC => ⟨true, hm, rfl⟩)
theorem C15 (v : ∀ (a_ : List al) (b_ : List al), VC15 a_ b_ (fun r => r = dG a_ b_)) : S15 := by
 intro w X a_ b_ a1 c1 a2 c2   h1 h2
 refine (W15 w X a_ b_ a1 c1 a2 c2   _ (v a_ b_) h1 h2).mono ?_
 rintro _ _ _ _ ⟨r, rfl, h⟩
 exact h
theorem W37 (w0) (X0) (a_ : List aS) (b_ : List aS) (a1) (c1) (a2) (c2) (Q : Bool -> Prop) (hm : VC37 a_ b_ Q) (h1 : RS aw w0 X0 a1 a_ c1) (h2 : RS aw w0 X0 a2 b_ c2) :
  Ret Try.prog 37 #[.slice a1 a_.length c1, .slice a2 b_.length c2] aF w0 X0 (fun w X' v => ∃ r, Q r /\ v = .bool r) := by
 unfold VC37 at hm
 replace hm := hm (h1.sm kr)
 replace hm := hm (h2.sm kr)
 refine enter Try.func37 rfl (vals := [.slice a1 a_.length c1, .slice a2 b_.length c2]) kr ?_
 intro Z a hS hO hM
 replace h1 := h1.m0 hM
 replace h2 := h2.m0 hM
 refine rPb T hS [(0, Sl a1 a_ c1), (1, Sl a2 b_ c2)] fun a hS => ?_
 refine ba ?_
 refine rPb T hS [(0, Sl a1 a_ c1), (1, Sl a2 b_ c2), (10, B ((lN a_) != (lN b_)))] fun a hS => ?_
 refine aG hS (b := ((lN a_) != (lN b_))) kr (fun hb => ?_) fun hb => ?_
 ·replace hm := hm.1 hb
  refine rPb T hS [(4, B false)] fun a hS => ?_
  refine aU ?_
  exact fin T hS hO (fun c => c) rfl (r := [.bool false]) kr (fun X' hM hC => ⟨false, hm, rfl⟩)
 replace hm := hm.2 hb
 refine aJ ?_
 refine bU (fun a w => ∃ Z X, VC37_J1 Q /\ St Try.f37.ntmps ⟨[], []⟩ Z a w X /\ Old w0 X0 w X) ?_ ?_
 ·refine rPb T hS [(0, Sl a1 a_ c1), (1, Sl a2 b_ c2), (5, I 0)] fun a hS => ?_
  refine aO ?_
  obtain ⟨I1, μ1, hm0, hm⟩ := hm
  refine b8 (σ := Int) (fun s a w => ∃ Z X, I1 s /\ St Try.f37.ntmps ⟨[(0, Sl a1 a_ c1), (1, Sl a2 b_ c2), (5, I s)], []⟩ Z a w X /\ Old w0 X0 w X /\ RS aw w X a1 a_ c1 /\ RS aw w X a2 b_ c2) (fun s => μ1 s) (0) ?_ ?_
  ·exact ⟨Z, _, hm0, hS.sl _, hO, h1, h2⟩
  rintro y103 a w113 ⟨Z, X112, hI, hS, hO, h101, h102⟩
  replace hm := hm y103 hI
  clear hI hm0
  refine ba ?_
  refine rPb T hS [(0, Sl a1 a_ c1), (1, Sl a2 b_ c2), (5, I y103), (14, B (decide (y103 < (lN a_))))] fun a hS => ?_
  refine aG hS (b := decide (y103 < (lN a_))) kr (fun hb => ?_) fun hb => ?_
  ·replace hm := hm.1 hb
   refine aJ (ba ?_)
   refine aO ?_
   refine ct [] mixed hS ?_
   intro w104 X105 hS hE hD hH
   replace hO := hO.m2 hE
   replace h101 := h101.m1 hE
   replace h102 := h102.m1 hE
   refine tkb T [0, 1, 4, 5] [] hS hH #[true, true, false, false, true, true, false, false, false] 5 [(0, Sl a1 a_ c1), (1, Sl a2 b_ c2), (5, I y103), (17, Sl a1 a_ c1), (18, I y103), (21, Sl a2 b_ c2), (22, I y103)] fun a hS => ?_
   obtain ⟨hq, hm⟩ := hm
   refine cD (e := 87) (k := .i64) T 2 hS kr kr kr (by rfl) kr hH kr kr h101 kr kr hq.1 hq.2 ?_
   intro A106 a h107 hS
   have h107b := h107.here
   refine fB T 3 hS kr kr kr (by rfl) kr hH kr h107 h107b kr kr ?_
   intro v108 a hv hS
   subst hv
   obtain ⟨hq, hm⟩ := hm
   refine cD (e := 87) (k := .i64) T 6 hS kr kr kr (by rfl) kr hH kr kr h102 kr kr hq.1 hq.2 ?_
   intro A109 a h110 hS
   have h110b := h110.here
   refine fB T 7 hS kr kr kr (by rfl) kr hH kr h110 h110b kr kr ?_
   intro v111 a hv hS
   subst hv
   refine jf (op := .neq) (xs := [.int .i64 ((gi a_ y103).State), .int .i64 ((gi a_ y103).Kind), .int .i64 ((gi a_ y103).Next), .int .i64 ((gi a_ y103).Result)]) (ys := [.int .i64 ((gi b_ y103).State), .int .i64 ((gi b_ y103).Kind), .int .i64 ((gi b_ y103).Next), .int .i64 ((gi b_ y103).Result)]) (r := (((gi a_ y103).State) == ((gi b_ y103).State) && (((gi a_ y103).Kind) == ((gi b_ y103).Kind) && (((gi a_ y103).Next) == ((gi b_ y103).Next) && (((gi a_ y103).Result) == ((gi b_ y103).Result) && true))))) (b := (!(((gi a_ y103).State) == ((gi b_ y103).State) && (((gi a_ y103).Kind) == ((gi b_ y103).Kind) && (((gi a_ y103).Next) == ((gi b_ y103).Next) && (((gi a_ y103).Result) == ((gi b_ y103).Result) && true)))))) 8 T hS kr kr kr (by rfl) kr hH kr kr kr kr kr kr ?_
   intro a hS
   refine aM kr ?_
   replace hS := hS.slb [(0, Sl a1 a_ c1), (1, Sl a2 b_ c2), (5, I y103), (25, B (!(((gi a_ y103).State) == ((gi b_ y103).State) && (((gi a_ y103).Kind) == ((gi b_ y103).Kind) && (((gi a_ y103).Next) == ((gi b_ y103).Next) && (((gi a_ y103).Result) == ((gi b_ y103).Result) && true))))))]
   refine aG hS (b := (!(((gi a_ y103).State) == ((gi b_ y103).State) && (((gi a_ y103).Kind) == ((gi b_ y103).Kind) && (((gi a_ y103).Next) == ((gi b_ y103).Next) && (((gi a_ y103).Result) == ((gi b_ y103).Result) && true)))))) kr (fun hb => ?_) fun hb => ?_
   ·replace hm := hm.1 hb
    refine rPb T hS [(4, B false)] fun a hS => ?_
    refine aU ?_
    exact fin T hS hO (fun c => c) rfl (r := [.bool false]) kr (fun X' hM hC => ⟨false, hm, rfl⟩)
   replace hm := hm.2 hb
   refine aJ ?_
   refine region (ePb T hS [(0, Sl a1 a_ c1), (1, Sl a2 b_ c2), (5, I (wR (y103 + 1)))] fun a hS => ?_)
   exact ⟨wR (y103 + 1), ⟨Z, _, hm.1, hS.sl _, hO, h101, h102⟩, hm.2⟩
  replace hm := hm.2 hb
  refine b0 (by rfl) ?_
  exact ⟨Z, _, hm, hS.sl _, hO⟩
 rintro a w115 ⟨Z, X114, hm, hS, hO⟩
 unfold VC37_J1 at hm
 refine rPb T hS [(4, B true)] fun a hS => ?_
 refine aU ?_
 exact fin T hS hO (fun c => c) rfl (r := [.bool true]) kr (fun X' hM hC => ⟨true, hm, rfl⟩)
theorem C37 (v : ∀ (a_ : List aS) (b_ : List aS), VC37 a_ b_ (fun r => r = cU a_ b_)) : S37 := by
 intro w X a_ b_ a1 c1 a2 c2   h1 h2
 refine (W37 w X a_ b_ a1 c1 a2 c2   _ (v a_ b_) h1 h2).mono ?_
 rintro _ _ _ _ ⟨r, rfl, h⟩
 exact h
theorem W16 (k37 : S37) (w0) (X0) (a_ : ai) (b_ : ai) (a1) (c1) (a2) (c2) (Q : Bool -> Prop) (hm : VC16 a_ b_ Q) (h1 : RS aw w0 X0 a1 a_.Rows c1) (h2 : RS aw w0 X0 a2 b_.Rows c2) :
  Ret Try.prog 16 #[.agg #[.int .i64 a_.ao, .int .i64 a_.av, .int .i64 a_.aC, .slice a1 a_.Rows.length c1], .agg #[.int .i64 b_.ao, .int .i64 b_.av, .int .i64 b_.aC, .slice a2 b_.Rows.length c2]] aF w0 X0 (fun w X' v => ∃ r, Q r /\ v = .bool r) := by
 unfold VC16 at hm
 replace hm := hm (h1.sm kr)
 replace hm := hm (h2.sm kr)
 refine enter Try.func16 rfl (vals := [.agg #[.int .i64 a_.ao, .int .i64 a_.av, .int .i64 a_.aC, .slice a1 a_.Rows.length c1], .agg #[.int .i64 b_.ao, .int .i64 b_.av, .int .i64 b_.aC, .slice a2 b_.Rows.length c2]]) kr ?_
 intro Z a hS hO hM
 replace h1 := h1.m0 hM
 replace h2 := h2.m0 hM
 refine rM T hS ⟨[(2, Pt 3 0), (3, Pt 4 0)], [(3, (42, (cO a_ a1 c1))), (4, (42, (cO b_ a2 c2)))]⟩ fun Z a w105 X106 hS hE hr => ?_
 replace hO := hO.m2 hE
 replace h1 := h1.m1 hE
 replace h2 := h2.m1 hE
 clear hE hr
 refine bb ?_
 refine oPb T hS 20 [(2, Pt 3 0), (3, Pt 4 0), (24, B (((a_.ao == b_.ao) && (a_.av == b_.av)) && (a_.aC == b_.aC)))] (sp := [10, 17]) fun a hS => ?_
 rcases bft (((a_.ao == b_.ao) && (a_.av == b_.av)) && (a_.aC == b_.aC)) with hb | hb
 ·replace hS := hS.lit (t := 24) kr hb
  replace hm := hm.1 hb
  refine oP T hS 4 ⟨[(24, B true), (26, Sl a1 a_.Rows c1), (28, Sl a2 b_.Rows c2)], []⟩ fun a hS => ?_
  refine op1 (call hS kr kr hb37 kr (fun _ _ => rfl) (k37 _ _ a_.Rows b_.Rows a1 c1 a2 c2 h1 h2) ?_)
  intro v101 a w102 X103 hE hp hS
  replace hO := hO.m2 hE
  replace h1 := h1.m1 hE
  replace h2 := h2.m1 hE
  obtain ⟨r104, hr⟩ : ∃ r, cU a_.Rows b_.Rows = r := ⟨_, rfl⟩
  replace hm := hm r104 hr
  rw [hr] at hp
  clear hr
  subst hp
  refine ePb T hS [(4, B r104)] fun a hS => ?_
  refine aU ?_
  exact fin T hS hO (fun c => c) rfl (r := [.bool r104]) kr (fun X' hM hC => ⟨r104, hm, rfl⟩)
 replace hS := hS.lit (t := 24) kr hb
 replace hm := hm.2 hb
 refine eP T hS ⟨[(4, B false)], []⟩ fun a hS => ?_
 refine aU ?_
 exact fin T hS hO (fun c => c) rfl (r := [.bool false]) kr (fun X' hM hC => ⟨false, hm, rfl⟩)
theorem C16 (k37 : S37) (v : ∀ (a_ : ai) (b_ : ai), VC16 a_ b_ (fun r => r = cV a_ b_)) : S16 := by
 intro w X a_ b_ a1 c1 a2 c2   h1 h2
 refine (W16 k37 w X a_ b_ a1 c1 a2 c2   _ (v a_ b_) h1 h2).mono ?_
 rintro _ _ _ _ ⟨r, rfl, h⟩
 exact h
theorem W32 (k26 : S26) (w0) (X0) (l_ : List al) (a1) (c1) (Q : (List aa) × Int -> Prop) (hm : VC32 l_ Q) (h1 : RS az w0 X0 a1 l_ c1) :
  Ret Try.prog 32 #[.slice a1 l_.length c1] aF w0 X0 (fun w X' v => ∃ r, Q r /\ ∃ ra1 rc1, v = .tuple #[.slice ra1 r.1.length rc1, .int .i64 r.2] /\ RS aq w X' ra1 r.1 rc1) := by
 unfold VC32 at hm
 replace hm := hm (h1.sm kr)
 refine enter Try.func32 rfl (vals := [.slice a1 l_.length c1]) kr ?_
 intro Z a hS hO hM
 replace h1 := h1.m0 hM
 refine rPb T hS [(0, Sl a1 l_ c1)] fun a hS => ?_
 refine ba ?_
 refine bb ?_
 refine oPb T hS 1 [(0, Sl a1 l_ c1), (12, Sl a1 l_ c1)] fun a hS => ?_
 refine op1 (call hS kr kr hb26 kr (fun _ _ => rfl) (k26 _ _ l_ a1 c1 h1) ?_)
 intro v101 a w102 X103 hE hp hS
 replace hO := hO.m2 hE
 replace h1 := h1.m1 hE
 obtain ⟨r104, hr⟩ : ∃ r, bB l_ = r := ⟨_, rfl⟩
 replace hm := hm r104 hr
 rw [hr] at hp
 clear hr
 subst hp
 refine ePb T hS [(0, Sl a1 l_ c1), (5, I r104.2)] fun a hS => ?_
 refine rPb T hS [(0, Sl a1 l_ c1), (5, I r104.2), (17, B (r104.2 != 0))] fun a hS => ?_
 refine aG hS (b := (r104.2 != 0)) kr (fun hb => ?_) fun hb => ?_
 ·replace hm := hm.1 hb
  refine rPb T hS [(2, V (.slice none 0 0)), (3, I r104.2)] fun a hS => ?_
  refine aU ?_
  exact fin T hS hO (fun c => c) rfl (r := [.slice none 0 0, .int .i64 r104.2]) kr (fun X' hM hC => ⟨([], r104.2), hm, none, 0, rfl, RS.empty _ _ _⟩)
 replace hm := hm.2 hb
 refine aJ ?_
 refine rPb T hS [(0, Sl a1 l_ c1), (6, V (.slice none 0 0))] fun a hS => ?_
 refine bb ?_
 refine op1 (jo kI tI false 1020 hS kr kr ?_)
 intro r105 a w106 X107 hE h108 hS
 replace hO := hO.m2 hE
 replace h1 := h1.m1 hE
 refine ePb T hS [(0, Sl a1 l_ c1), (6, V (.slice none 0 0)), (7, V (.map (some r105)))] fun a hS => ?_
 refine bU (fun a w => ∃ (Z : Nat -> Nat) (X : Nat -> Nat) (y109 : List aa) (a110 : Option Addr) (c111 : Nat), VC32_J1 Q y109 /\ St Try.f32.ntmps ⟨[(6, Sl a110 y109 c111)], []⟩ Z a w X /\ Old w0 X0 w X /\ OS aq 80 w X 1003 a110 y109 c111) ?_ ?_
 ·refine rPb T hS [(6, V (.slice none 0 0)), (7, V (.map (some r105))), (20, Sl a1 l_ c1), (21, I (lN l_)), (22, I 0)] fun a hS => ?_
  refine aO ?_
  obtain ⟨I1, μ1, hm0, hm⟩ := hm
  refine b8 (σ := (List aa) × (List (Int × Int)) × Int) (fun s a w => ∃ Z X a116 c117, I1 s.1 s.2.1 s.2.2 /\ St Try.f32.ntmps ⟨[(6, Sl a116 s.1 c117), (7, V (.map (some r105))), (20, Sl a1 l_ c1), (21, I (lN l_)), (22, I s.2.2)], []⟩ Z a w X /\ Old w0 X0 w X /\ OS aq 80 w X 1003 a116 s.1 c117 /\ OM kI tI false w X 1020 r105 s.2.1 /\ RS az w X a1 l_ c1) (fun s => μ1 s.1 s.2.1 s.2.2) (⟨[], ([] : List (Int × Int)), 0⟩) ?_ ?_
  ·exact ⟨Z, _, none, 0, hm0, hS.sl _, hO, (OS.nil _ _ _ _ _), h108, h1⟩
  rintro ⟨y115, y119, y122⟩ a w165 ⟨Z, X164, a116, c117, hI, hS, hO, h118, h120, h121⟩
  replace hm := hm y115 y119 y122 hI
  clear hI hm0
  refine rPb T hS [(6, Sl a116 y115 c117), (7, V (.map (some r105))), (20, Sl a1 l_ c1), (21, I (lN l_)), (22, I y122), (23, B (decide (y122 < (lN l_))))] fun a hS => ?_
  refine ba ?_
  refine aG hS (b := decide (y122 < (lN l_))) kr (fun hb => ?_) fun hb => ?_
  ·replace hm := hm.1 hb
   refine aJ ?_
   refine bU (fun a w => ∃ (Z : Nat -> Nat) (X : Nat -> Nat) (y123 : List aa) (y127 : List (Int × Int)) (a124 : Option Addr) (c125 : Nat), VC32_J2 I1 μ1 y115 y119 y122 y123 y127 /\ St Try.f32.ntmps ⟨[(6, Sl a124 y123 c125), (7, V (.map (some r105))), (20, Sl a1 l_ c1), (21, I (lN l_)), (22, I y122)], []⟩ Z a w X /\ Old w0 X0 w X /\ OS aq 80 w X 1003 a124 y123 c125 /\ OM kI tI false w X 1020 r105 y127 /\ RS az w X a1 l_ c1) ?_ ?_
   ·refine aO ?_
    refine bb ?_
    refine oPb T hS 1 [(6, Sl a116 y115 c117), (7, V (.map (some r105))), (20, Sl a1 l_ c1), (21, I (lN l_)), (22, I y122), (24, I y122)] fun a hS => ?_
    obtain ⟨hq, hm⟩ := hm
    refine op1 (index (e := 62) (k := .i64) T hS kr kr kr kr h121 kr kr hq.1 hq.2 ?_)
    intro A130 a h131 hS
    refine op1 (di T hS kr kr kr h131 kr kr ?_)
    intro v132 a hv hS
    subst hv
    refine eM T hS ⟨[(6, Sl a116 y115 c117), (7, V (.map (some r105))), (8, I y122), (9, Pt 10 0), (20, Sl a1 l_ c1), (21, I (lN l_)), (22, I y122)], [(10, (62, (cE (gi l_ y122))))]⟩ fun Z a w160 X161 hS hE hr => ?_
    replace hO := hO.m2 hE
    replace h118 := h118.m2 hE
    replace h120 := h120.m2 hE
    replace h121 := h121.m1 hE
    clear hE hr
    refine ba ?_
    refine rPb T hS [(6, Sl a116 y115 c117), (7, V (.map (some r105))), (8, I y122), (9, Pt 10 0), (20, Sl a1 l_ c1), (21, I (lN l_)), (22, I y122), (29, B (((gi l_ y122).aY) == 1))] fun a hS => ?_
    refine aG hS (b := (((gi l_ y122).aY) == 1)) kr (fun hb => ?_) fun hb => ?_
    ·replace hm := hm.1 hb
     refine bb ?_
     refine oPb T hS 5 [(6, Sl a116 y115 c117), (7, V (.map (some r105))), (8, I y122), (9, Pt 10 0), (20, Sl a1 l_ c1), (21, I (lN l_)), (22, I y122), (30, V (.map (some r105))), (32, I ((gi l_ y122).ab)), (34, I (lN y115))] fun a hS => ?_
     refine op1 (lA kI tI false (v := I (lN y115)) (u := (lN y115)) ((gi l_ y122).ab) hS kr kr kr kr Try.underlying71 Try.underlying3 kr h120 rfl ?_)
     intro a w133 hE h134 hS
     clear h120
     replace hO := hO.m2 hE
     replace h118 := h118.m2 hE
     replace h121 := h121.m1 hE
     refine eO ?_
     refine bb ?_
     refine oP T hS 7 ⟨[(6, Sl a116 y115 c117), (7, V (.map (some r105))), (20, Sl a1 l_ c1), (21, I (lN l_)), (22, I y122), (35, Sl a116 y115 c117), (41, V (.agg #[.int .i64 ((gi l_ y122).ab), .int .i64 ((gi l_ y122).N), .int .i64 y122, .int .i64 (-1), .int .i64 (-1)]))], []⟩ fun a hS => ?_
     refine op1 (lit (E := 80) (col := 0) (T := aq) (vals := [.agg #[.int .i64 ((gi l_ y122).ab), .int .i64 ((gi l_ y122).N), .int .i64 y122, .int .i64 (-1), .int .i64 (-1)]]) (ys := [(⟨(gi l_ y122).ab, (gi l_ y122).N, y122, (-1), (-1)⟩ : aa)]) T hS kr kr kr kr (by exact ⟨rfl, trivial⟩) rfl kr kr kr kr ?_)
     intro b135 a w136 X137 hE h138 hN hS
     clear hN
     replace hO := hO.m2 hE
     replace h118 := h118.m2 hE
     replace h121 := h121.m1 hE
     replace h134 := h134.m2 hE
     replace h138 := h138.rs0
     obtain ⟨hq, hm⟩ := hm
     obtain ⟨news, hN⟩ := h138.src
     refine op1 (append (E := 80) (T := aq) (col := 1003) (xs := y115) T hS kr kr kr kr h118 hN kr kr kr kr hq ?_)
     intro a142 c143 a w139 X140 hE h141 hS
     clear hq hN
     clear h118
     replace hO := hO.m2 hE
     replace h121 := h121.m1 hE
     replace h134 := h134.m2 hE
     replace h138 := h138.m1 hE
     refine ePb T hS [(6, Sl a142 (y115 ++ [(⟨(gi l_ y122).ab, (gi l_ y122).N, y122, (-1), (-1)⟩ : aa)]) c143), (7, V (.map (some r105))), (20, Sl a1 l_ c1), (21, I (lN l_)), (22, I y122)] fun a hS => ?_
     refine b0 (by rfl) ?_
     exact ⟨Z, _, y115 ++ [(⟨(gi l_ y122).ab, (gi l_ y122).N, y122, (-1), (-1)⟩ : aa)], cg y119 ((gi l_ y122).ab) (lN y115), a142, c143, hm, hS.sl _, hO, h141, h134, h121⟩
    replace hm := hm.2 hb
    refine aJ ?_
    refine bb ?_
    refine oPb T hS 4 [(6, Sl a116 y115 c117), (7, V (.map (some r105))), (8, I y122), (9, Pt 10 0), (20, Sl a1 l_ c1), (21, I (lN l_)), (22, I y122), (44, Sl a116 y115 c117), (45, V (.map (some r105))), (47, I ((gi l_ y122).ab))] fun a hS => ?_
    refine op1 (fM kI tI false (zv := .int .i64 0) (z := 0) ((gi l_ y122).ab) hS kr kr kr kr Try.underlying71 Try.underlying3 kr rfl h120 ?_)
    intro v144 a hv hS
    replace hv : tI.R _ _ [v144] _ := hv
    cases hv
    obtain ⟨hq149, hm⟩ := hm
    refine op1 (ie (E := 80) (k := .i64) T hS kr kr kr kr h118 kr kr hq149.1 hq149.2 ?_)
    intro A145 a h147 h146 hS
    have h148 := h147.ad
    clear h147 h146
    refine ePb T hS [(6, Sl a116 y115 c117), (7, V (.map (some r105))), (8, I y122), (9, Pt 10 0), (10, V (.pointer (some A145))), (20, Sl a1 l_ c1), (21, I (lN l_)), (22, I y122)] fun a hS => ?_
    refine fj [10] mixed hS ?_
    intro w150 X151 hS hE hD hH
    replace hO := hO.m2 hE
    replace h118 := h118.m2 hE
    replace h120 := h120.m2 hE
    replace h121 := h121.m1 hE
    refine tkb T [0, 1, 2, 3, 4] [10] hS hH #[true, true, true, true, true, false, false, false, false, false, false] 6 [(6, Sl a116 y115 c117), (7, V (.map (some r105))), (20, Sl a1 l_ c1), (21, I (lN l_)), (22, I y122), (50, V (.pointer (some A145))), (51, V (.pointer (some A145))), (52, I y122), (54, I ((gi l_ y122).N))] fun a hS => ?_
    refine only 5 kr (by rfl) (qf (A := A145) hS kr kr kr ?_)
    intro a hS
    refine bX (bl.of hS (bks := [10]) kr hD) ?_
    intro hH
    refine only 6 kr (by rfl) (lJ (off := 3) (fsz := 1) (ft := 3) T hS kr kr kr h148 kr kr ?_)
    intro A152 a h153 hS
    refine bX (bl.of hS (bks := [10]) kr hD) ?_
    intro hH
    refine only 7 kr (by rfl) (lh (m := 1) (off := 3) (x := (⟨(gi y115 ((ay y119 ((gi l_ y122).ab)).getD 0)).ab, (gi y115 ((ay y119 ((gi l_ y122).ab)).getD 0)).Kind, (gi y115 ((ay y119 ((gi l_ y122).ab)).getD 0)).aA, y122, (gi y115 ((ay y119 ((gi l_ y122).ab)).getD 0)).Result⟩ : aa)) (v := I y122) (i := ((ay y119 ((gi l_ y122).ab)).getD 0).toNat) (E := 80) (xs := y115) T hS kr kr kr kr h118 h153 (by have := hq149.1; have := hq149.2; (try simp only [List.length_set]); omega) kr kr rfl (fun _ _ _ h => by cases h; rfl) ?_)
    intro a w154 hE h155 hS
    clear h118
    replace hO := hO.m2 hE
    replace hD := hD.ev hE rfl
    replace h120 := h120.m2 hE
    replace h121 := h121.m1 hE
    replace hS := hS.conv (t := 6) (y := .slice a116 (y115.set ((ay y119 ((gi l_ y122).ab)).getD 0).toNat (⟨(gi y115 ((ay y119 ((gi l_ y122).ab)).getD 0)).ab, (gi y115 ((ay y119 ((gi l_ y122).ab)).getD 0)).Kind, (gi y115 ((ay y119 ((gi l_ y122).ab)).getD 0)).aA, y122, (gi y115 ((ay y119 ((gi l_ y122).ab)).getD 0)).Result⟩ : aa)).length c117) kr (by rw [List.length_set])
    refine bX (bl.of hS (bks := [10]) kr hD) ?_
    intro hH
    refine only 8 kr (by rfl) (qf (A := A145) hS kr kr kr ?_)
    intro a hS
    refine bX (bl.of hS (bks := [10]) kr hD) ?_
    intro hH
    refine only 9 kr (by rfl) (lJ (off := 4) (fsz := 1) (ft := 3) T hS kr kr kr h148 kr kr ?_)
    intro A156 a h157 hS
    refine bX (bl.of hS (bks := [10]) kr hD) ?_
    intro hH
    refine only 10 kr (by rfl) (lh (m := 1) (off := 4) (x := (⟨(gi (y115.set ((ay y119 ((gi l_ y122).ab)).getD 0).toNat (⟨(gi y115 ((ay y119 ((gi l_ y122).ab)).getD 0)).ab, (gi y115 ((ay y119 ((gi l_ y122).ab)).getD 0)).Kind, (gi y115 ((ay y119 ((gi l_ y122).ab)).getD 0)).aA, y122, (gi y115 ((ay y119 ((gi l_ y122).ab)).getD 0)).Result⟩ : aa)) ((ay y119 ((gi l_ y122).ab)).getD 0)).ab, (gi (y115.set ((ay y119 ((gi l_ y122).ab)).getD 0).toNat (⟨(gi y115 ((ay y119 ((gi l_ y122).ab)).getD 0)).ab, (gi y115 ((ay y119 ((gi l_ y122).ab)).getD 0)).Kind, (gi y115 ((ay y119 ((gi l_ y122).ab)).getD 0)).aA, y122, (gi y115 ((ay y119 ((gi l_ y122).ab)).getD 0)).Result⟩ : aa)) ((ay y119 ((gi l_ y122).ab)).getD 0)).Kind, (gi (y115.set ((ay y119 ((gi l_ y122).ab)).getD 0).toNat (⟨(gi y115 ((ay y119 ((gi l_ y122).ab)).getD 0)).ab, (gi y115 ((ay y119 ((gi l_ y122).ab)).getD 0)).Kind, (gi y115 ((ay y119 ((gi l_ y122).ab)).getD 0)).aA, y122, (gi y115 ((ay y119 ((gi l_ y122).ab)).getD 0)).Result⟩ : aa)) ((ay y119 ((gi l_ y122).ab)).getD 0)).aA, (gi (y115.set ((ay y119 ((gi l_ y122).ab)).getD 0).toNat (⟨(gi y115 ((ay y119 ((gi l_ y122).ab)).getD 0)).ab, (gi y115 ((ay y119 ((gi l_ y122).ab)).getD 0)).Kind, (gi y115 ((ay y119 ((gi l_ y122).ab)).getD 0)).aA, y122, (gi y115 ((ay y119 ((gi l_ y122).ab)).getD 0)).Result⟩ : aa)) ((ay y119 ((gi l_ y122).ab)).getD 0)).End, (gi l_ y122).N⟩ : aa)) (v := I ((gi l_ y122).N)) (i := ((ay y119 ((gi l_ y122).ab)).getD 0).toNat) (E := 80) (xs := (y115.set ((ay y119 ((gi l_ y122).ab)).getD 0).toNat (⟨(gi y115 ((ay y119 ((gi l_ y122).ab)).getD 0)).ab, (gi y115 ((ay y119 ((gi l_ y122).ab)).getD 0)).Kind, (gi y115 ((ay y119 ((gi l_ y122).ab)).getD 0)).aA, y122, (gi y115 ((ay y119 ((gi l_ y122).ab)).getD 0)).Result⟩ : aa))) T hS kr kr kr kr h155 h157 (by have := hq149.1; have := hq149.2; (try simp only [List.length_set]); omega) kr kr rfl (fun _ _ _ h => by cases h; rfl) ?_)
    intro a w158 hE h159 hS
    clear h155
    replace hO := hO.m2 hE
    replace hD := hD.ev hE rfl
    replace h120 := h120.m2 hE
    replace h121 := h121.m1 hE
    replace hS := hS.conv (t := 6) (y := .slice a116 ((y115.set ((ay y119 ((gi l_ y122).ab)).getD 0).toNat (⟨(gi y115 ((ay y119 ((gi l_ y122).ab)).getD 0)).ab, (gi y115 ((ay y119 ((gi l_ y122).ab)).getD 0)).Kind, (gi y115 ((ay y119 ((gi l_ y122).ab)).getD 0)).aA, y122, (gi y115 ((ay y119 ((gi l_ y122).ab)).getD 0)).Result⟩ : aa)).set ((ay y119 ((gi l_ y122).ab)).getD 0).toNat (⟨(gi (y115.set ((ay y119 ((gi l_ y122).ab)).getD 0).toNat (⟨(gi y115 ((ay y119 ((gi l_ y122).ab)).getD 0)).ab, (gi y115 ((ay y119 ((gi l_ y122).ab)).getD 0)).Kind, (gi y115 ((ay y119 ((gi l_ y122).ab)).getD 0)).aA, y122, (gi y115 ((ay y119 ((gi l_ y122).ab)).getD 0)).Result⟩ : aa)) ((ay y119 ((gi l_ y122).ab)).getD 0)).ab, (gi (y115.set ((ay y119 ((gi l_ y122).ab)).getD 0).toNat (⟨(gi y115 ((ay y119 ((gi l_ y122).ab)).getD 0)).ab, (gi y115 ((ay y119 ((gi l_ y122).ab)).getD 0)).Kind, (gi y115 ((ay y119 ((gi l_ y122).ab)).getD 0)).aA, y122, (gi y115 ((ay y119 ((gi l_ y122).ab)).getD 0)).Result⟩ : aa)) ((ay y119 ((gi l_ y122).ab)).getD 0)).Kind, (gi (y115.set ((ay y119 ((gi l_ y122).ab)).getD 0).toNat (⟨(gi y115 ((ay y119 ((gi l_ y122).ab)).getD 0)).ab, (gi y115 ((ay y119 ((gi l_ y122).ab)).getD 0)).Kind, (gi y115 ((ay y119 ((gi l_ y122).ab)).getD 0)).aA, y122, (gi y115 ((ay y119 ((gi l_ y122).ab)).getD 0)).Result⟩ : aa)) ((ay y119 ((gi l_ y122).ab)).getD 0)).aA, (gi (y115.set ((ay y119 ((gi l_ y122).ab)).getD 0).toNat (⟨(gi y115 ((ay y119 ((gi l_ y122).ab)).getD 0)).ab, (gi y115 ((ay y119 ((gi l_ y122).ab)).getD 0)).Kind, (gi y115 ((ay y119 ((gi l_ y122).ab)).getD 0)).aA, y122, (gi y115 ((ay y119 ((gi l_ y122).ab)).getD 0)).Result⟩ : aa)) ((ay y119 ((gi l_ y122).ab)).getD 0)).End, (gi l_ y122).N⟩ : aa)).length c117) kr (by rw [List.length_set])
    refine bX (bl.of hS (bks := [10]) kr hD) ?_
    intro hH
    refine aM kr ?_
    replace hS := hS.sl ⟨[(6, Sl a116 ((y115.set ((ay y119 ((gi l_ y122).ab)).getD 0).toNat (⟨(gi y115 ((ay y119 ((gi l_ y122).ab)).getD 0)).ab, (gi y115 ((ay y119 ((gi l_ y122).ab)).getD 0)).Kind, (gi y115 ((ay y119 ((gi l_ y122).ab)).getD 0)).aA, y122, (gi y115 ((ay y119 ((gi l_ y122).ab)).getD 0)).Result⟩ : aa)).set ((ay y119 ((gi l_ y122).ab)).getD 0).toNat (⟨(gi (y115.set ((ay y119 ((gi l_ y122).ab)).getD 0).toNat (⟨(gi y115 ((ay y119 ((gi l_ y122).ab)).getD 0)).ab, (gi y115 ((ay y119 ((gi l_ y122).ab)).getD 0)).Kind, (gi y115 ((ay y119 ((gi l_ y122).ab)).getD 0)).aA, y122, (gi y115 ((ay y119 ((gi l_ y122).ab)).getD 0)).Result⟩ : aa)) ((ay y119 ((gi l_ y122).ab)).getD 0)).ab, (gi (y115.set ((ay y119 ((gi l_ y122).ab)).getD 0).toNat (⟨(gi y115 ((ay y119 ((gi l_ y122).ab)).getD 0)).ab, (gi y115 ((ay y119 ((gi l_ y122).ab)).getD 0)).Kind, (gi y115 ((ay y119 ((gi l_ y122).ab)).getD 0)).aA, y122, (gi y115 ((ay y119 ((gi l_ y122).ab)).getD 0)).Result⟩ : aa)) ((ay y119 ((gi l_ y122).ab)).getD 0)).Kind, (gi (y115.set ((ay y119 ((gi l_ y122).ab)).getD 0).toNat (⟨(gi y115 ((ay y119 ((gi l_ y122).ab)).getD 0)).ab, (gi y115 ((ay y119 ((gi l_ y122).ab)).getD 0)).Kind, (gi y115 ((ay y119 ((gi l_ y122).ab)).getD 0)).aA, y122, (gi y115 ((ay y119 ((gi l_ y122).ab)).getD 0)).Result⟩ : aa)) ((ay y119 ((gi l_ y122).ab)).getD 0)).aA, (gi (y115.set ((ay y119 ((gi l_ y122).ab)).getD 0).toNat (⟨(gi y115 ((ay y119 ((gi l_ y122).ab)).getD 0)).ab, (gi y115 ((ay y119 ((gi l_ y122).ab)).getD 0)).Kind, (gi y115 ((ay y119 ((gi l_ y122).ab)).getD 0)).aA, y122, (gi y115 ((ay y119 ((gi l_ y122).ab)).getD 0)).Result⟩ : aa)) ((ay y119 ((gi l_ y122).ab)).getD 0)).End, (gi l_ y122).N⟩ : aa)) c117), (7, V (.map (some r105))), (20, Sl a1 l_ c1), (21, I (lN l_)), (22, I y122)], []⟩
    exact ⟨Z, _, ((y115.set ((ay y119 ((gi l_ y122).ab)).getD 0).toNat (⟨(gi y115 ((ay y119 ((gi l_ y122).ab)).getD 0)).ab, (gi y115 ((ay y119 ((gi l_ y122).ab)).getD 0)).Kind, (gi y115 ((ay y119 ((gi l_ y122).ab)).getD 0)).aA, y122, (gi y115 ((ay y119 ((gi l_ y122).ab)).getD 0)).Result⟩ : aa)).set ((ay y119 ((gi l_ y122).ab)).getD 0).toNat (⟨(gi (y115.set ((ay y119 ((gi l_ y122).ab)).getD 0).toNat (⟨(gi y115 ((ay y119 ((gi l_ y122).ab)).getD 0)).ab, (gi y115 ((ay y119 ((gi l_ y122).ab)).getD 0)).Kind, (gi y115 ((ay y119 ((gi l_ y122).ab)).getD 0)).aA, y122, (gi y115 ((ay y119 ((gi l_ y122).ab)).getD 0)).Result⟩ : aa)) ((ay y119 ((gi l_ y122).ab)).getD 0)).ab, (gi (y115.set ((ay y119 ((gi l_ y122).ab)).getD 0).toNat (⟨(gi y115 ((ay y119 ((gi l_ y122).ab)).getD 0)).ab, (gi y115 ((ay y119 ((gi l_ y122).ab)).getD 0)).Kind, (gi y115 ((ay y119 ((gi l_ y122).ab)).getD 0)).aA, y122, (gi y115 ((ay y119 ((gi l_ y122).ab)).getD 0)).Result⟩ : aa)) ((ay y119 ((gi l_ y122).ab)).getD 0)).Kind, (gi (y115.set ((ay y119 ((gi l_ y122).ab)).getD 0).toNat (⟨(gi y115 ((ay y119 ((gi l_ y122).ab)).getD 0)).ab, (gi y115 ((ay y119 ((gi l_ y122).ab)).getD 0)).Kind, (gi y115 ((ay y119 ((gi l_ y122).ab)).getD 0)).aA, y122, (gi y115 ((ay y119 ((gi l_ y122).ab)).getD 0)).Result⟩ : aa)) ((ay y119 ((gi l_ y122).ab)).getD 0)).aA, (gi (y115.set ((ay y119 ((gi l_ y122).ab)).getD 0).toNat (⟨(gi y115 ((ay y119 ((gi l_ y122).ab)).getD 0)).ab, (gi y115 ((ay y119 ((gi l_ y122).ab)).getD 0)).Kind, (gi y115 ((ay y119 ((gi l_ y122).ab)).getD 0)).aA, y122, (gi y115 ((ay y119 ((gi l_ y122).ab)).getD 0)).Result⟩ : aa)) ((ay y119 ((gi l_ y122).ab)).getD 0)).End, (gi l_ y122).N⟩ : aa)), y119, a116, c117, hm, hS.sl _, hO, h159, h120, h121⟩
   rintro a w163 ⟨Z, X162, y123, y127, a124, c125, hm, hS, hO, h126, h128, h129⟩
   unfold VC32_J2 at hm
   refine region (ePb T hS [(6, Sl a124 y123 c125), (7, V (.map (some r105))), (20, Sl a1 l_ c1), (21, I (lN l_)), (22, I (wR (y122 + 1)))] fun a hS => ?_)
   exact ⟨⟨y123, y127, wR (y122 + 1)⟩, ⟨Z, _, a124, c125, hm.1, hS.sl _, hO, h126, h128, h129⟩, hm.2⟩
  replace hm := hm.2 hb
  refine b0 (by rfl) ?_
  exact ⟨Z, _, y115, a116, c117, hm, hS.sl _, hO, h118⟩
 rintro a w167 ⟨Z, X166, y109, a110, c111, hm, hS, hO, h112⟩
 unfold VC32_J1 at hm
 refine rPb T hS [(2, Sl a110 y109 c111), (3, I 0)] fun a hS => ?_
 refine aU ?_
 obtain ⟨X113, hE, hF⟩ := h112.freeze (by decide)
 replace hS := hS.ev hE (bW kr)
 replace hO := hO.m2 hE
 have h114 := hF; clear hE hF
 exact fin T hS hO (fun c => c) rfl (r := [.slice a110 y109.length c111, .int .i64 0]) kr (fun X' hM hC => ⟨(y109, 0), hm, a110, c111, rfl, h114.m0 hM⟩)
theorem C32 (k26 : S26) (v : ∀ (l_ : List al), VC32 l_ (fun r => r = eu l_)) : S32 := by
 intro w X l_ a1 c1   h1
 refine (W32 k26 w X l_ a1 c1   _ (v l_) h1).mono ?_
 rintro _ _ _ _ ⟨r, rfl, h⟩
 exact h
theorem W33 (k29 : S29) (w0) (X0) (l_ : List al) (a1) (c1) (Q : (List aa) × Int -> Prop) (hm : VC33 l_ Q) (h1 : RS az w0 X0 a1 l_ c1) :
  Ret Try.prog 33 #[.slice a1 l_.length c1] aF w0 X0 (fun w X' v => ∃ r, Q r /\ ∃ ra1 rc1, v = .tuple #[.slice ra1 r.1.length rc1, .int .i64 r.2] /\ RS aq w X' ra1 r.1 rc1) := by
 unfold VC33 at hm
 replace hm := hm (h1.sm kr)
 refine enter Try.func33 rfl (vals := [.slice a1 l_.length c1]) kr ?_
 intro Z a hS hO hM
 replace h1 := h1.m0 hM
 refine rPb T hS [(0, Sl a1 l_ c1)] fun a hS => ?_
 refine bb ?_
 refine oPb T hS 1 [(0, Sl a1 l_ c1), (11, Sl a1 l_ c1)] fun a hS => ?_
 refine op1 (call hS kr kr hb29 kr (fun _ _ => rfl) (k29 _ _ l_ a1 c1 h1) ?_)
 intro v101 a w102 X103 hE hp hS
 replace hO := hO.m2 hE
 replace h1 := h1.m1 hE
 obtain ⟨r104, hr⟩ : ∃ r, dg l_ = r := ⟨_, rfl⟩
 replace hm := hm r104 hr
 rw [hr] at hp
 clear hr
 subst hp
 refine ePb T hS [(0, Sl a1 l_ c1), (5, I r104.2)] fun a hS => ?_
 refine ba ?_
 refine rPb T hS [(0, Sl a1 l_ c1), (5, I r104.2), (16, B (r104.2 != 0))] fun a hS => ?_
 refine aG hS (b := (r104.2 != 0)) kr (fun hb => ?_) fun hb => ?_
 ·replace hm := hm.1 hb
  refine rPb T hS [(2, V (.slice none 0 0)), (3, I r104.2)] fun a hS => ?_
  refine aU ?_
  exact fin T hS hO (fun c => c) rfl (r := [.slice none 0 0, .int .i64 r104.2]) kr (fun X' hM hC => ⟨([], r104.2), hm, none, 0, rfl, RS.empty _ _ _⟩)
 replace hm := hm.2 hb
 refine aJ ?_
 refine rPb T hS [(0, Sl a1 l_ c1), (6, V (.slice none 0 0))] fun a hS => ?_
 refine bU (fun a w => ∃ (Z : Nat -> Nat) (X : Nat -> Nat) (y105 : List aa) (a106 : Option Addr) (c107 : Nat), VC33_J1 Q y105 /\ St Try.f33.ntmps ⟨[(6, Sl a106 y105 c107)], []⟩ Z a w X /\ Old w0 X0 w X /\ OS aq 80 w X 1003 a106 y105 c107) ?_ ?_
 ·refine rPb T hS [(0, Sl a1 l_ c1), (6, V (.slice none 0 0)), (7, I 0)] fun a hS => ?_
  refine aO ?_
  obtain ⟨I1, μ1, hm0, hm⟩ := hm
  refine b8 (σ := (List aa) × Int) (fun s a w => ∃ Z X a113 c114, I1 s.1 s.2 /\ St Try.f33.ntmps ⟨[(0, Sl a1 l_ c1), (6, Sl a113 s.1 c114), (7, I s.2)], []⟩ Z a w X /\ Old w0 X0 w X /\ RS az w X a1 l_ c1 /\ OS aq 80 w X 1003 a113 s.1 c114) (fun s => μ1 s.1 s.2) (⟨[], 0⟩) ?_ ?_
  ·exact ⟨Z, _, none, 0, hm0, hS.sl _, hO, h1, (OS.nil _ _ _ _ _)⟩
  rintro ⟨y112, y116⟩ a w211 ⟨Z, X210, a113, c114, hI, hS, hO, h111, h115⟩
  replace hm := hm y112 y116 hI
  clear hI hm0
  refine ba ?_
  refine rPb T hS [(0, Sl a1 l_ c1), (6, Sl a113 y112 c114), (7, I y116), (21, B (decide (y116 < (lN l_))))] fun a hS => ?_
  refine aG hS (b := decide (y116 < (lN l_))) kr (fun hb => ?_) fun hb => ?_
  ·replace hm := hm.1 hb
   refine aJ ?_
   refine bU (fun a w => ∃ (Z : Nat -> Nat) (X : Nat -> Nat) (y118 : List aa) (a119 : Option Addr) (c120 : Nat), VC33_J2 I1 μ1 y112 y116 y118 /\ St Try.f33.ntmps ⟨[(0, Sl a1 l_ c1), (6, Sl a119 y118 c120), (7, I y116)], []⟩ Z a w X /\ Old w0 X0 w X /\ RS az w X a1 l_ c1 /\ OS aq 80 w X 1003 a119 y118 c120) ?_ ?_
   ·refine aO ?_
    refine ba ?_
    refine bb ?_
    refine oPb T hS 2 [(0, Sl a1 l_ c1), (6, Sl a113 y112 c114), (7, I y116), (24, Sl a1 l_ c1), (25, I y116)] fun a hS => ?_
    obtain ⟨hq, hm⟩ := hm
    refine op1 (index (e := 62) (k := .i64) T hS kr kr kr kr h111 kr kr hq.1 hq.2 ?_)
    intro A122 a h123 hS
    refine op1 (fa (off := 0) (fsz := 1) (ft := 3) (TF := tI) (y := (gi l_ y116).aY) T hS kr kr kr h123 kr kr kr (fun cs h => iQ h) ?_)
    intro A124 a h125 hS
    refine op1 (ec T hS kr kr kr h125 rfl kr ?_)
    intro v126 a hv hS
    cases hv
    refine ePb T hS [(0, Sl a1 l_ c1), (6, Sl a113 y112 c114), (7, I y116), (29, B (((gi l_ y116).aY) != 1))] fun a hS => ?_
    refine aG hS (b := (((gi l_ y116).aY) != 1)) kr (fun hb => ?_) fun hb => ?_
    ·replace hm := hm.1 hb
     refine b0 (by rfl) ?_
     exact ⟨Z, _, y112, a113, c114, hm, hS.sl _, hO, h111, h115⟩
    replace hm := hm.2 hb
    refine aJ ?_
    refine ct [] mixed hS ?_
    intro w127 X128 hS hE hD hH
    replace hO := hO.m2 hE
    replace h111 := h111.m1 hE
    replace h115 := h115.m2 hE
    refine tkb T [0, 1, 5, 6, 10] [] hS hH #[true, true, false, false, false, true, true, false, false, false, true, false, false, false] 9 [(0, Sl a1 l_ c1), (6, Sl a113 y112 c114), (7, I y116), (30, Sl a1 l_ c1), (31, I y116), (35, Sl a1 l_ c1), (36, I y116), (40, I y116)] fun a hS => ?_
    obtain ⟨hq, hm⟩ := hm
    refine cD (e := 62) (k := .i64) T 2 hS kr kr kr (by rfl) kr hH kr kr h111 kr kr hq.1 hq.2 ?_
    intro A129 a h130 hS
    have h130b := h130.here
    refine db (off := 1) (fsz := 1) (ft := 3) (TF := tI) (y := (gi l_ y116).ab) 3 T hS kr kr kr (by rfl) kr hH kr h130 kr kr kr (fun cs h => eI h) ?_
    intro A131 a h132 hbl hS
    have h132b := h130b
    rw [← hbl] at h132b
    clear hbl
    refine dB T 4 hS kr kr kr (by rfl) kr hH kr h132 h132b rfl kr ?_
    intro v133 a hv hS
    cases hv
    obtain ⟨hq, hm⟩ := hm
    refine cD (e := 62) (k := .i64) T 7 hS kr kr kr (by rfl) kr hH kr kr h111 kr kr hq.1 hq.2 ?_
    intro A134 a h135 hS
    have h135b := h135.here
    refine db (off := 2) (fsz := 1) (ft := 3) (TF := tI) (y := (gi l_ y116).N) 8 T hS kr kr kr (by rfl) kr hH kr h135 kr kr kr (fun cs h => iP h) ?_
    intro A136 a h137 hbl hS
    have h137b := h135b
    rw [← hbl] at h137b
    clear hbl
    refine dB T 9 hS kr kr kr (by rfl) kr hH kr h137 h137b rfl kr ?_
    intro v138 a hv hS
    cases hv
    refine tkb T [11] [] hS hH #[true, true, true, true, true, true, true, true, true, true, true, true, false, false] 2 [(0, Sl a1 l_ c1), (6, Sl a113 y112 c114), (7, I y116), (41, V (.agg #[.int .i64 ((gi l_ y116).ab), .int .i64 ((gi l_ y116).N), .int .i64 y116, .int .i64 (-1), .int .i64 (-1)]))] fun a hS => ?_
    replace hS := hS.sl ⟨[(0, Sl a1 l_ c1), (6, Sl a113 y112 c114), (7, I y116), (41, V (.agg #[.int .i64 ((gi l_ y116).ab), .int .i64 ((gi l_ y116).N), .int .i64 y116, .int .i64 (-1), .int .i64 (-1)]))], []⟩
    refine only 12 kr (by rfl) (qC T hS kr kr kr (sy' := ⟨[(8, Pt 9 0), (0, Sl a1 l_ c1), (6, Sl a113 y112 c114), (7, I y116), (41, V (.agg #[.int .i64 ((gi l_ y116).ab), .int .i64 ((gi l_ y116).N), .int .i64 y116, .int .i64 (-1), .int .i64 (-1)]))], [(9, (80, [I 0, I 0, I 0, I 0, I 0]))]⟩) kr ?_)
    intro Z a w139 X140 hS hE hr141
    replace hO := hO.m2 hE
    replace hD := hD.ev hE rfl
    replace h111 := h111.m1 hE
    replace h115 := h115.m2 hE
    replace h130 := h130.m1 hE
    replace h132 := h132.m1 hE
    replace h135 := h135.m1 hE
    replace h137 := h137.m1 hE
    replace hS := hS.sl ⟨[(0, Sl a1 l_ c1), (6, Sl a113 y112 c114), (7, I y116), (41, V (.agg #[.int .i64 ((gi l_ y116).ab), .int .i64 ((gi l_ y116).N), .int .i64 y116, .int .i64 (-1), .int .i64 (-1)])), (8, Pt 9 0)], [(9, (80, [I 0, I 0, I 0, I 0, I 0]))]⟩
    refine bX ((bl.of hS (bks := []) kr hD).rho hr141 kr) ?_
    intro hH
    replace hS := hS.sl ⟨[(0, Sl a1 l_ c1), (6, Sl a113 y112 c114), (7, I y116), (41, V (.agg #[.int .i64 ((gi l_ y116).ab), .int .i64 ((gi l_ y116).N), .int .i64 y116, .int .i64 (-1), .int .i64 (-1)])), (8, Pt 9 0)], [(9, (80, [I 0, I 0, I 0, I 0, I 0]))]⟩
    refine only 13 kr (by rfl) (oh T hS kr kr (sy' := ⟨[(0, Sl a1 l_ c1), (6, Sl a113 y112 c114), (7, I y116), (41, V (.agg #[.int .i64 ((gi l_ y116).ab), .int .i64 ((gi l_ y116).N), .int .i64 y116, .int .i64 (-1), .int .i64 (-1)])), (8, Pt 9 0)], [(9, (80, [I ((gi l_ y116).ab), I ((gi l_ y116).N), I y116, I (-1), I (-1)])), (9, (80, [I 0, I 0, I 0, I 0, I 0]))]⟩) kr ?_)
    intro a w142 X143 hS hE
    replace hO := hO.m2 hE
    replace hD := hD.ev hE rfl
    replace h111 := h111.m1 hE
    replace h115 := h115.m2 hE
    replace h130 := h130.m1 hE
    replace h132 := h132.m1 hE
    replace h135 := h135.m1 hE
    replace h137 := h137.m1 hE
    replace hS := hS.sl ⟨[(0, Sl a1 l_ c1), (6, Sl a113 y112 c114), (7, I y116), (41, V (.agg #[.int .i64 ((gi l_ y116).ab), .int .i64 ((gi l_ y116).N), .int .i64 y116, .int .i64 (-1), .int .i64 (-1)])), (8, Pt 9 0)], [(9, (80, [I ((gi l_ y116).ab), I ((gi l_ y116).N), I y116, I (-1), I (-1)]))]⟩
    refine bX ((bl.of hS (bks := []) kr hD).rho hr141 kr) ?_
    intro hH
    refine aM kr ?_
    replace hS := hS.slb [(0, Sl a1 l_ c1), (6, Sl a113 y112 c114), (7, I y116), (8, Pt 9 0)]
    refine bU (fun a w => ∃ (Z : Nat -> Nat) (X : Nat -> Nat) (y145 : List aa) (y149 : Int) (y150 : Int) (y151 : Int) (y152 : Int) (y153 : Int) (a146 : Option Addr) (c147 : Nat), VC33_J3 I1 μ1 y112 y116 y145 y149 y150 y151 y152 y153 /\ St Try.f33.ntmps ⟨[(0, Sl a1 l_ c1), (6, Sl a146 y145 c147), (7, I y116), (8, Pt 9 0)], [(9, (80, [I y149, I y150, I y151, I y152, I y153]))]⟩ Z a w X /\ Old w0 X0 w X /\ RS az w X a1 l_ c1 /\ OS aq 80 w X 1003 a146 y145 c147) ?_ ?_
    ·refine rPb T hS [(0, Sl a1 l_ c1), (6, Sl a113 y112 c114), (7, I y116), (8, Pt 9 0), (9, I (wR (y116 + 1)))] fun a hS => ?_
     refine aO ?_
     obtain ⟨I2, μ2, hm0, hm⟩ := hm
     refine b8 (σ := (List aa) × Int × Int × Int × Int × Int × Int) (fun s a w => ∃ Z X a165 c166, I2 s.1 s.2.1 s.2.2.1 s.2.2.2.1 s.2.2.2.2.1 s.2.2.2.2.2.1 s.2.2.2.2.2.2 /\ St Try.f33.ntmps ⟨[(0, Sl a1 l_ c1), (6, Sl a165 s.1 c166), (7, I y116), (8, Pt 9 0), (9, I s.2.1)], [(9, (80, [I s.2.2.1, I s.2.2.2.1, I s.2.2.2.2.1, I s.2.2.2.2.2.1, I s.2.2.2.2.2.2]))]⟩ Z a w X /\ Old w0 X0 w X /\ RS az w X a1 l_ c1 /\ OS aq 80 w X 1003 a165 s.1 c166) (fun s => μ2 s.1 s.2.1 s.2.2.1 s.2.2.2.1 s.2.2.2.2.1 s.2.2.2.2.2.1 s.2.2.2.2.2.2) (⟨y112, wR (y116 + 1), (gi l_ y116).ab, (gi l_ y116).N, y116, (-1), (-1)⟩) ?_ ?_
     ·exact ⟨Z, _, a113, c114, hm0, hS.sl _, hO, h111, h115⟩
     rintro ⟨y164, y168, y169, y170, y171, y172, y173⟩ a w205 ⟨Z, X204, a165, c166, hI, hS, hO, h163, h167⟩
     replace hm := hm y164 y168 y169 y170 y171 y172 y173 hI
     clear hI hm0
     refine ba ?_
     refine rPb T hS [(0, Sl a1 l_ c1), (6, Sl a165 y164 c166), (7, I y116), (8, Pt 9 0), (9, I y168), (52, B ((decide (y168 < (lN l_))) && (decide (y172 < 0))))] (sp := [48]) fun a hS => ?_
     refine aG hS (b := ((decide (y168 < (lN l_))) && (decide (y172 < 0)))) kr (fun hb => ?_) fun hb => ?_
     ·replace hm := hm.1 hb
      refine aJ ?_
      refine bU (fun a w => ∃ (Z : Nat -> Nat) (X : Nat -> Nat) (y175 : List aa) (y179 : Int) (y180 : Int) (a176 : Option Addr) (c177 : Nat), VC33_J4 I2 μ2 y164 y168 y169 y170 y171 y172 y173 y175 y179 y180 /\ St Try.f33.ntmps ⟨[(0, Sl a1 l_ c1), (6, Sl a176 y175 c177), (7, I y116), (8, Pt 9 0), (9, I y168)], [(9, (80, [I y169, I y170, I y171, I y179, I y180]))]⟩ Z a w X /\ Old w0 X0 w X /\ RS az w X a1 l_ c1 /\ OS aq 80 w X 1003 a176 y175 c177) ?_ ?_
      ·refine aO ?_
       refine ct [9] mixed hS ?_
       intro w181 X182 hS hE hD hH
       replace hO := hO.m2 hE
       replace h163 := h163.m1 hE
       replace h167 := h167.m2 hE
       refine tkb T [0, 1, 5, 6] [9] hS hH #[true, true, false, false, false, true, true, false, false, false, false] 7 [(0, Sl a1 l_ c1), (6, Sl a165 y164 c166), (7, I y116), (8, Pt 9 0), (9, I y168), (55, Sl a1 l_ c1), (56, I y168), (60, Sl a1 l_ c1), (61, I y116)] fun a hS => ?_
       obtain ⟨hq, hm⟩ := hm
       refine cD (e := 62) (k := .i64) T 2 hS kr kr kr (by rfl) kr hH kr kr h163 kr kr hq.1 hq.2 ?_
       intro A183 a h184 hS
       have h184b := h184.here
       refine db (off := 1) (fsz := 1) (ft := 3) (TF := tI) (y := (gi l_ y168).ab) 3 T hS kr kr kr (by rfl) kr hH kr h184 kr kr kr (fun cs h => eI h) ?_
       intro A185 a h186 hbl hS
       have h186b := h184b
       rw [← hbl] at h186b
       clear hbl
       refine dB T 4 hS kr kr kr (by rfl) kr hH kr h186 h186b rfl kr ?_
       intro v187 a hv hS
       cases hv
       obtain ⟨hq, hm⟩ := hm
       refine cD (e := 62) (k := .i64) T 7 hS kr kr kr (by rfl) kr hH kr kr h163 kr kr hq.1 hq.2 ?_
       intro A188 a h189 hS
       have h189b := h189.here
       refine db (off := 1) (fsz := 1) (ft := 3) (TF := tI) (y := (gi l_ y116).ab) 8 T hS kr kr kr (by rfl) kr hH kr h189 kr kr kr (fun cs h => eI h) ?_
       intro A190 a h191 hbl hS
       have h191b := h189b
       rw [← hbl] at h191b
       clear hbl
       refine dB T 9 hS kr kr kr (by rfl) kr hH kr h191 h191b rfl kr ?_
       intro v192 a hv hS
       cases hv
       refine tkb T [10] [9] hS hH (tts 11) 0 [(0, Sl a1 l_ c1), (6, Sl a165 y164 c166), (7, I y116), (8, Pt 9 0), (9, I y168), (65, B (((gi l_ y168).ab) == ((gi l_ y116).ab)))] fun a hS => ?_
       refine aM kr ?_
       replace hS := hS.slb [(0, Sl a1 l_ c1), (6, Sl a165 y164 c166), (7, I y116), (8, Pt 9 0), (9, I y168), (65, B (((gi l_ y168).ab) == ((gi l_ y116).ab)))]
       refine aG hS (b := (((gi l_ y168).ab) == ((gi l_ y116).ab))) kr (fun hb => ?_) fun hb => ?_
       ·replace hm := hm.1 hb
        refine rM T hS ⟨[(0, Sl a1 l_ c1), (6, Sl a165 y164 c166), (7, I y116), (8, Pt 9 0), (9, I y168)], [(9, (80, [I y169, I y170, I y171, I y168, I y173]))]⟩ fun Z a w200 X201 hS hE hr => ?_
        replace hO := hO.m2 hE
        replace h163 := h163.m1 hE
        replace h167 := h167.m2 hE
        clear hE hr
        refine region ?_
        refine oPb T hS 2 [(0, Sl a1 l_ c1), (6, Sl a165 y164 c166), (7, I y116), (8, Pt 9 0), (9, I y168), (68, Sl a1 l_ c1), (69, I y168)] fun a hS => ?_
        obtain ⟨hq, hm⟩ := hm
        refine op1 (index (e := 62) (k := .i64) T hS kr kr kr kr h163 kr kr hq.1 hq.2 ?_)
        intro A193 a h194 hS
        refine op1 (fa (off := 2) (fsz := 1) (ft := 3) (TF := tI) (y := (gi l_ y168).N) T hS kr kr kr h194 kr kr kr (fun cs h => iP h) ?_)
        intro A195 a h196 hS
        refine op1 (ec T hS kr kr kr h196 rfl kr ?_)
        intro v197 a hv hS
        cases hv
        refine eM T hS ⟨[(0, Sl a1 l_ c1), (6, Sl a165 y164 c166), (7, I y116), (8, Pt 9 0), (9, I y168)], [(9, (80, [I y169, I y170, I y171, I y168, I ((gi l_ y168).N)]))]⟩ fun Z a w198 X199 hS hE hr => ?_
        replace hO := hO.m2 hE
        replace h163 := h163.m1 hE
        replace h167 := h167.m2 hE
        clear hE hr
        exact ⟨Z, _, y164, y168, (gi l_ y168).N, a165, c166, hm, hS.sl _, hO, h163, h167⟩
       replace hm := hm.2 hb
       refine aJ ?_
       exact ⟨Z, _, y164, y172, y173, a165, c166, hm, hS.sl _, hO, h163, h167⟩
      rintro a w203 ⟨Z, X202, y175, y179, y180, a176, c177, hm, hS, hO, h174, h178⟩
      unfold VC33_J4 at hm
      refine region (ePb T hS [(0, Sl a1 l_ c1), (6, Sl a176 y175 c177), (7, I y116), (8, Pt 9 0), (9, I (wR (y168 + 1)))] fun a hS => ?_)
      exact ⟨⟨y175, wR (y168 + 1), y169, y170, y171, y179, y180⟩, ⟨Z, _, a176, c177, hm.1, hS.sl _, hO, h174, h178⟩, hm.2⟩
     replace hm := hm.2 hb
     refine b0 (by rfl) ?_
     exact ⟨Z, _, y164, y169, y170, y171, y172, y173, a165, c166, hm, hS.sl _, hO, h163, h167⟩
    rintro a w207 ⟨Z, X206, y145, y149, y150, y151, y152, y153, a146, c147, hm, hS, hO, h144, h148⟩
    unfold VC33_J3 at hm
    refine region ?_
    refine oP T hS 2 ⟨[(0, Sl a1 l_ c1), (6, Sl a146 y145 c147), (7, I y116), (74, Sl a146 y145 c147), (75, V (.agg #[.int .i64 y149, .int .i64 y150, .int .i64 y151, .int .i64 y152, .int .i64 y153]))], []⟩ fun a hS => ?_
    refine op1 (lit (E := 80) (col := 0) (T := aq) (vals := [.agg #[.int .i64 y149, .int .i64 y150, .int .i64 y151, .int .i64 y152, .int .i64 y153]]) (ys := [(⟨y149, y150, y151, y152, y153⟩ : aa)]) T hS kr kr kr kr (by exact ⟨rfl, trivial⟩) rfl kr kr kr kr ?_)
    intro b154 a w155 X156 hE h157 hN hS
    clear hN
    replace hO := hO.m2 hE
    replace h144 := h144.m1 hE
    replace h148 := h148.m2 hE
    replace h157 := h157.rs0
    obtain ⟨hq, hm⟩ := hm
    obtain ⟨news, hN⟩ := h157.src
    refine op1 (append (E := 80) (T := aq) (col := 1003) (xs := y145) T hS kr kr kr kr h148 hN kr kr kr kr hq ?_)
    intro a161 c162 a w158 X159 hE h160 hS
    clear hq hN
    clear h148
    replace hO := hO.m2 hE
    replace h144 := h144.m1 hE
    replace h157 := h157.m1 hE
    refine ePb T hS [(0, Sl a1 l_ c1), (6, Sl a161 (y145 ++ [(⟨y149, y150, y151, y152, y153⟩ : aa)]) c162), (7, I y116)] fun a hS => ?_
    exact ⟨Z, _, y145 ++ [(⟨y149, y150, y151, y152, y153⟩ : aa)], a161, c162, hm, hS.sl _, hO, h144, h160⟩
   rintro a w209 ⟨Z, X208, y118, a119, c120, hm, hS, hO, h117, h121⟩
   unfold VC33_J2 at hm
   refine region (ePb T hS [(0, Sl a1 l_ c1), (6, Sl a119 y118 c120), (7, I (wR (y116 + 1)))] fun a hS => ?_)
   exact ⟨⟨y118, wR (y116 + 1)⟩, ⟨Z, _, a119, c120, hm.1, hS.sl _, hO, h117, h121⟩, hm.2⟩
  replace hm := hm.2 hb
  refine b0 (by rfl) ?_
  exact ⟨Z, _, y112, a113, c114, hm, hS.sl _, hO, h115⟩
 rintro a w213 ⟨Z, X212, y105, a106, c107, hm, hS, hO, h108⟩
 unfold VC33_J1 at hm
 refine rPb T hS [(2, Sl a106 y105 c107), (3, I 0)] fun a hS => ?_
 refine aU ?_
 obtain ⟨X109, hE, hF⟩ := h108.freeze (by decide)
 replace hS := hS.ev hE (bW kr)
 replace hO := hO.m2 hE
 have h110 := hF; clear hE hF
 exact fin T hS hO (fun c => c) rfl (r := [.slice a106 y105.length c107, .int .i64 0]) kr (fun X' hM hC => ⟨(y105, 0), hm, a106, c107, rfl, h110.m0 hM⟩)
theorem C33 (k29 : S29) (v : ∀ (l_ : List al), VC33 l_ (fun r => r = e6 l_)) : S33 := by
 intro w X l_ a1 c1   h1
 refine (W33 k29 w X l_ a1 c1   _ (v l_) h1).mono ?_
 rintro _ _ _ _ ⟨r, rfl, h⟩
 exact h
theorem W13 (w0) (X0) (a_ : List aa) (b_ : List aa) (a1) (c1) (a2) (c2) (Q : Bool -> Prop) (hm : VC13 a_ b_ Q) (h1 : RS aq w0 X0 a1 a_ c1) (h2 : RS aq w0 X0 a2 b_ c2) :
  Ret Try.prog 13 #[.slice a1 a_.length c1, .slice a2 b_.length c2] aF w0 X0 (fun w X' v => ∃ r, Q r /\ v = .bool r) := by
 unfold VC13 at hm
 replace hm := hm (h1.sm kr)
 replace hm := hm (h2.sm kr)
 refine enter Try.func13 rfl (vals := [.slice a1 a_.length c1, .slice a2 b_.length c2]) kr ?_
 intro Z a hS hO hM
 replace h1 := h1.m0 hM
 replace h2 := h2.m0 hM
 refine rPb T hS [(0, Sl a1 a_ c1), (1, Sl a2 b_ c2)] fun a hS => ?_
 refine ba ?_
 refine rPb T hS [(0, Sl a1 a_ c1), (1, Sl a2 b_ c2), (10, B ((lN a_) != (lN b_)))] fun a hS => ?_
 refine aG hS (b := ((lN a_) != (lN b_))) kr (fun hb => ?_) fun hb => ?_
 ·replace hm := hm.1 hb
  refine rPb T hS [(4, B false)] fun a hS => ?_
  refine aU ?_
  exact fin T hS hO (fun c => c) rfl (r := [.bool false]) kr (fun X' hM hC => ⟨false, hm, rfl⟩)
 replace hm := hm.2 hb
 refine aJ ?_
 refine bU (fun a w => ∃ Z X, VC13_J1 Q /\ St Try.f13.ntmps ⟨[], []⟩ Z a w X /\ Old w0 X0 w X) ?_ ?_
 ·refine rPb T hS [(0, Sl a1 a_ c1), (1, Sl a2 b_ c2), (5, I 0)] fun a hS => ?_
  refine aO ?_
  obtain ⟨I1, μ1, hm0, hm⟩ := hm
  refine b8 (σ := Int) (fun s a w => ∃ Z X, I1 s /\ St Try.f13.ntmps ⟨[(0, Sl a1 a_ c1), (1, Sl a2 b_ c2), (5, I s)], []⟩ Z a w X /\ Old w0 X0 w X /\ RS aq w X a1 a_ c1 /\ RS aq w X a2 b_ c2) (fun s => μ1 s) (0) ?_ ?_
  ·exact ⟨Z, _, hm0, hS.sl _, hO, h1, h2⟩
  rintro y103 a w113 ⟨Z, X112, hI, hS, hO, h101, h102⟩
  replace hm := hm y103 hI
  clear hI hm0
  refine ba ?_
  refine rPb T hS [(0, Sl a1 a_ c1), (1, Sl a2 b_ c2), (5, I y103), (14, B (decide (y103 < (lN a_))))] fun a hS => ?_
  refine aG hS (b := decide (y103 < (lN a_))) kr (fun hb => ?_) fun hb => ?_
  ·replace hm := hm.1 hb
   refine aJ (ba ?_)
   refine aO ?_
   refine ct [] mixed hS ?_
   intro w104 X105 hS hE hD hH
   replace hO := hO.m2 hE
   replace h101 := h101.m1 hE
   replace h102 := h102.m1 hE
   refine tkb T [0, 1, 4, 5] [] hS hH #[true, true, false, false, true, true, false, false, false] 5 [(0, Sl a1 a_ c1), (1, Sl a2 b_ c2), (5, I y103), (17, Sl a1 a_ c1), (18, I y103), (21, Sl a2 b_ c2), (22, I y103)] fun a hS => ?_
   obtain ⟨hq, hm⟩ := hm
   refine cD (e := 80) (k := .i64) T 2 hS kr kr kr (by rfl) kr hH kr kr h101 kr kr hq.1 hq.2 ?_
   intro A106 a h107 hS
   have h107b := h107.here
   refine fB T 3 hS kr kr kr (by rfl) kr hH kr h107 h107b kr kr ?_
   intro v108 a hv hS
   subst hv
   obtain ⟨hq, hm⟩ := hm
   refine cD (e := 80) (k := .i64) T 6 hS kr kr kr (by rfl) kr hH kr kr h102 kr kr hq.1 hq.2 ?_
   intro A109 a h110 hS
   have h110b := h110.here
   refine fB T 7 hS kr kr kr (by rfl) kr hH kr h110 h110b kr kr ?_
   intro v111 a hv hS
   subst hv
   refine jf (op := .neq) (xs := [.int .i64 ((gi a_ y103).ab), .int .i64 ((gi a_ y103).Kind), .int .i64 ((gi a_ y103).aA), .int .i64 ((gi a_ y103).End), .int .i64 ((gi a_ y103).Result)]) (ys := [.int .i64 ((gi b_ y103).ab), .int .i64 ((gi b_ y103).Kind), .int .i64 ((gi b_ y103).aA), .int .i64 ((gi b_ y103).End), .int .i64 ((gi b_ y103).Result)]) (r := (((gi a_ y103).ab) == ((gi b_ y103).ab) && (((gi a_ y103).Kind) == ((gi b_ y103).Kind) && (((gi a_ y103).aA) == ((gi b_ y103).aA) && (((gi a_ y103).End) == ((gi b_ y103).End) && (((gi a_ y103).Result) == ((gi b_ y103).Result) && true)))))) (b := (!(((gi a_ y103).ab) == ((gi b_ y103).ab) && (((gi a_ y103).Kind) == ((gi b_ y103).Kind) && (((gi a_ y103).aA) == ((gi b_ y103).aA) && (((gi a_ y103).End) == ((gi b_ y103).End) && (((gi a_ y103).Result) == ((gi b_ y103).Result) && true))))))) 8 T hS kr kr kr (by rfl) kr hH kr kr kr kr kr kr ?_
   intro a hS
   refine aM kr ?_
   replace hS := hS.slb [(0, Sl a1 a_ c1), (1, Sl a2 b_ c2), (5, I y103), (25, B (!(((gi a_ y103).ab) == ((gi b_ y103).ab) && (((gi a_ y103).Kind) == ((gi b_ y103).Kind) && (((gi a_ y103).aA) == ((gi b_ y103).aA) && (((gi a_ y103).End) == ((gi b_ y103).End) && (((gi a_ y103).Result) == ((gi b_ y103).Result) && true)))))))]
   refine aG hS (b := (!(((gi a_ y103).ab) == ((gi b_ y103).ab) && (((gi a_ y103).Kind) == ((gi b_ y103).Kind) && (((gi a_ y103).aA) == ((gi b_ y103).aA) && (((gi a_ y103).End) == ((gi b_ y103).End) && (((gi a_ y103).Result) == ((gi b_ y103).Result) && true))))))) kr (fun hb => ?_) fun hb => ?_
   ·replace hm := hm.1 hb
    refine rPb T hS [(4, B false)] fun a hS => ?_
    refine aU ?_
    exact fin T hS hO (fun c => c) rfl (r := [.bool false]) kr (fun X' hM hC => ⟨false, hm, rfl⟩)
   replace hm := hm.2 hb
   refine aJ ?_
   refine region (ePb T hS [(0, Sl a1 a_ c1), (1, Sl a2 b_ c2), (5, I (wR (y103 + 1)))] fun a hS => ?_)
   exact ⟨wR (y103 + 1), ⟨Z, _, hm.1, hS.sl _, hO, h101, h102⟩, hm.2⟩
  replace hm := hm.2 hb
  refine b0 (by rfl) ?_
  exact ⟨Z, _, hm, hS.sl _, hO⟩
 rintro a w115 ⟨Z, X114, hm, hS, hO⟩
 unfold VC13_J1 at hm
 refine rPb T hS [(4, B true)] fun a hS => ?_
 refine aU ?_
 exact fin T hS hO (fun c => c) rfl (r := [.bool true]) kr (fun X' hM hC => ⟨true, hm, rfl⟩)
theorem C13 (v : ∀ (a_ : List aa) (b_ : List aa), VC13 a_ b_ (fun r => r = eS a_ b_)) : S13 := by
 intro w X a_ b_ a1 c1 a2 c2   h1 h2
 refine (W13 w X a_ b_ a1 c1 a2 c2   _ (v a_ b_) h1 h2).mono ?_
 rintro _ _ _ _ ⟨r, rfl, h⟩
 exact h
end Go.Proofs.Yteahldlmkheleaa
