/- Walks: each function returns what its condition asks. Condition: the contracts of its callees, handed in. -/
import Derived.Test.YtcjldfbgccmpkaaDoorHWalksS
set_option linter.all false
namespace Go.Proofs.YtcjldfbgccmpkaaDoor
open Go Go.Sv
set_option maxHeartbeats 1000000
/-- replevin/replevinlaw26.HisttextPlaces -/
theorem W6 (k16 : S16) (k7 : S7) (k8 : S8) (w0 : World) (χ0 : Nat → Nat) (s_ : List UInt8) (Q : Bool → Prop) (hm : VC6 s_ Q) (hAmb : Amb w0 χ0) :
  Ret Tryd.prog 6 #[.string (bs s_)] xnone w0 χ0 (fun w χ' v => ∃ r, Q r ∧ v = .bool r) := by
 unfold VC6 at hm
 refine enter Tryd.func6 rfl (vals := [.string (bs s_)]) kr ?_
 intro ρ a hS hO hM
 replace hAmb := hAmb.m0 hM
 clear hM
 refine regP T hS (sp := []) (ks := [0]) (bs := []) (sy' := ⟨[(0, V (.string (bs s_)))], []⟩) kr ?_
 intro a hS
 refine wseq ?_
 refine regP T hS (sp := []) (ks := [0, 15]) (bs := []) (sy' := ⟨[(0, V (.string (bs s_))), (15, B (decide (((s_.length : Nat) : Int) > 3000)))], []⟩) kr ?_
 intro a hS
 refine wcond hS (b := decide (((s_.length : Nat) : Int) > 3000)) kr (fun hb => ?_) (fun hb => ?_)
 ·replace hm := hm.1 hb
  refine regO ?_
  refine op1 (call hS kr kr hb7 kr (fun _ _ => rfl) (k7 _ _ hAmb) ?_)
  intro v101 a w102 χ103 hE hp hS
  replace hO := hO.mv hE rfl rfl
  replace hAmb := hAmb.mv hE rfl
  clear hE
  obtain ⟨r104, hr⟩ : ∃ r, law26_awake = r := ⟨_, rfl⟩
  replace hm := hm r104 hr
  rw [hr] at hp
  clear hr
  subst hp
  refine endP T hS (sp := []) (ks := [2]) (bs := []) (sy' := ⟨[(2, B r104)], []⟩) kr ?_
  intro a hS
  refine wret ?_
  exact fin T hS hO (fun c => c) rfl (r := [.bool r104]) kr (fun χ' hM hC => ⟨r104, hm, rfl⟩)
 ·replace hm := hm.2 hb
  refine wskip ?_
  refine regO ?_
  refine opsP T hS 1 (sp := []) (ks := [0, 18]) (bs := []) (sy' := ⟨[(0, V (.string (bs s_))), (18, V (.string (bs s_)))], []⟩) kr ?_
  intro a hS
  refine op1 (call hS kr kr hb8 kr (fun _ _ => rfl) (k8 _ _ s_) ?_)
  intro v105 a w106 χ107 hE hp hS
  replace hO := hO.mv hE rfl rfl
  replace hAmb := hAmb.mv hE rfl
  clear hE
  obtain ⟨a109, c110, a112, c113, hp, h111, h114⟩ := hp
  obtain ⟨r108, hr⟩ : ∃ r, histtext_Parse s_ = r := ⟨_, rfl⟩
  replace hm := hm r108 hr
  rw [hr] at hp h111 h114
  clear hr
  subst hp
  replace hm := hm (h111.sm kr)
  replace hm := hm (h114.sm kr)
  refine endM T hS (sp := []) (ks := [0, 4, 5]) (bs := []) (sy' := ⟨[(0, V (.string (bs s_))), (4, I r108.2.1), (5, I r108.2.2)], []⟩) kr ?_
  intro ρ a w198 χ199 hS hE hr
  replace hO := hO.mv hE rfl rfl
  replace hAmb := hAmb.mv hE rfl
  clear hE hr
  refine wseq ?_
  refine regP T hS (sp := [25]) (ks := [0, 4, 5, 30]) (bs := []) (sy' := ⟨[(0, V (.string (bs s_))), (4, I r108.2.1), (5, I r108.2.2), (30, B ((r108.2.2 == 0) || (r108.2.1 == ((s_.length : Nat) : Int))))], []⟩) kr ?_
  intro a hS
  refine wcond hS (b := ((r108.2.2 == 0) || (r108.2.1 == ((s_.length : Nat) : Int)))) kr (fun hb => ?_) (fun hb => ?_)
  ·replace hm := hm.1 hb
   refine regO ?_
   refine opsP T hS 5 (sp := []) (ks := [35]) (bs := []) (sy' := ⟨[(35, B (r108.2.1 == ((s_.length : Nat) : Int)))], []⟩) kr ?_
   intro a hS
   rcases Bool.eq_false_or_eq_true (r108.2.1 == ((s_.length : Nat) : Int)) with hb | hb
   ·replace hS := hS.lit (t := 35) kr hb
    replace hm := hm.1 hb
    refine op1 (call hS kr kr hb7 kr (fun _ _ => rfl) (k7 _ _ hAmb) ?_)
    intro v115 a w116 χ117 hE hp hS
    replace hO := hO.mv hE rfl rfl
    replace hAmb := hAmb.mv hE rfl
    clear hE
    obtain ⟨r118, hr⟩ : ∃ r, law26_awake = r := ⟨_, rfl⟩
    replace hm := hm r118 hr
    rw [hr] at hp
    clear hr
    subst hp
    refine endP T hS (sp := []) (ks := [2]) (bs := []) (sy' := ⟨[(2, B r118)], []⟩) kr ?_
    intro a hS
    refine wret ?_
    exact fin T hS hO (fun c => c) rfl (r := [.bool r118]) kr (fun χ' hM hC => ⟨r118, hm, rfl⟩)
   ·replace hS := hS.lit (t := 35) kr hb
    replace hm := hm.2 hb
    refine endP T hS (sp := []) (ks := [2]) (bs := []) (sy' := ⟨[(2, B false)], []⟩) kr ?_
    intro a hS
    refine wret ?_
    exact fin T hS hO (fun c => c) rfl (r := [.bool false]) kr (fun χ' hM hC => ⟨false, hm, rfl⟩)
  ·replace hm := hm.2 hb
   refine wskip ?_
   refine regO ?_
   refine opsP T hS 1 (sp := []) (ks := [0, 4, 5, 38]) (bs := []) (sy' := ⟨[(0, V (.string (bs s_))), (4, I r108.2.1), (5, I r108.2.2), (38, V (.string (bs s_)))], []⟩) kr ?_
   intro a hS
   obtain ⟨hq, hm⟩ := hm
   refine op1 (call hS kr kr hb16 kr (fun _ _ => rfl) (k16 _ _ s_ hq) ?_)
   intro v119 a w120 χ121 hE hp hS
   clear hq
   replace hO := hO.mv hE rfl rfl
   replace hAmb := hAmb.mv hE rfl
   clear hE
   obtain ⟨a123, c124, hp, h125⟩ := hp
   obtain ⟨r122, hr⟩ : ∃ r, token_Lines s_ = r := ⟨_, rfl⟩
   replace hm := hm r122 hr
   rw [hr] at hp h125
   clear hr
   subst hp
   replace hm := hm (h125.sm kr)
   refine endP T hS (sp := []) (ks := [0, 4, 5, 6]) (bs := []) (sy' := ⟨[(0, V (.string (bs s_))), (4, I r108.2.1), (5, I r108.2.2), (6, V (.slice a123 r122.length c124))], []⟩) kr ?_
   intro a hS
   refine wcut (fun a w => ∃ (ρ : Nat → Nat) (χ : Nat → Nat), VC6_J1 Q ∧ St Tryd.f6.ntmps ⟨[], []⟩ ρ a w χ ∧ Old w0 χ0 w χ ∧ Amb w χ) ?_ ?_
   ·refine regP T hS (sp := []) (ks := [0, 4, 5, 6, 7]) (bs := []) (sy' := ⟨[(0, V (.string (bs s_))), (4, I r108.2.1), (5, I r108.2.2), (6, V (.slice a123 r122.length c124)), (7, I 0)], []⟩) kr ?_
    intro a hS
    refine wblock ?_
    obtain ⟨I1, μ1, hm0, hm⟩ := hm
    refine wloop (σ := Int) (fun s a w => ∃ (ρ : Nat → Nat) (χ : Nat → Nat), I1 s ∧ St Tryd.f6.ntmps ⟨[(0, V (.string (bs s_))), (4, I r108.2.1), (5, I r108.2.2), (6, V (.slice a123 r122.length c124)), (7, I s)], []⟩ ρ a w χ ∧ Old w0 χ0 w χ ∧ RS (tSlice tToken_Token) w χ a123 r122 c124 ∧ Amb w χ) (fun s => μ1 s) (0) ?_ ?_
    ·exact ⟨ρ, _, hm0, hS.sel [0, 4, 5, 6, 7] [] kr, hO, h125, hAmb⟩
    ·rintro i_127 a w195 ⟨ρ, χ194, hI, hS, hO, h126, hAmb⟩
     replace hm := hm i_127 hI
     clear hI hm0
     refine wseq ?_
     refine regP T hS (sp := []) (ks := [0, 4, 5, 6, 7, 43]) (bs := []) (sy' := ⟨[(0, V (.string (bs s_))), (4, I r108.2.1), (5, I r108.2.2), (6, V (.slice a123 r122.length c124)), (7, I i_127), (43, B (decide (i_127 < ((r122.length : Nat) : Int))))], []⟩) kr ?_
     intro a hS
     refine wcond hS (b := decide (i_127 < ((r122.length : Nat) : Int))) kr (fun hb => ?_) (fun hb => ?_)
     ·replace hm := hm.1 hb
      refine wskip ?_
      refine wcut (fun a w => ∃ (ρ : Nat → Nat) (χ : Nat → Nat), VC6_J2 I1 μ1 i_127 ∧ St Tryd.f6.ntmps ⟨[(0, V (.string (bs s_))), (4, I r108.2.1), (5, I r108.2.2), (6, V (.slice a123 r122.length c124)), (7, I i_127)], []⟩ ρ a w χ ∧ Old w0 χ0 w χ ∧ RS (tSlice tToken_Token) w χ a123 r122 c124 ∧ Amb w χ) ?_ ?_
      ·refine wblock ?_
       refine regP T hS (sp := []) (ks := [0, 4, 5, 6, 7, 8]) (bs := []) (sy' := ⟨[(0, V (.string (bs s_))), (4, I r108.2.1), (5, I r108.2.2), (6, V (.slice a123 r122.length c124)), (7, I i_127), (8, I 0)], []⟩) kr ?_
       intro a hS
       refine wblock ?_
       obtain ⟨I2, μ2, hm0, hm⟩ := hm
       refine wloop (σ := Int) (fun s a w => ∃ (ρ : Nat → Nat) (χ : Nat → Nat), I2 s ∧ St Tryd.f6.ntmps ⟨[(0, V (.string (bs s_))), (4, I r108.2.1), (5, I r108.2.2), (6, V (.slice a123 r122.length c124)), (7, I i_127), (8, I s)], []⟩ ρ a w χ ∧ Old w0 χ0 w χ ∧ RS (tSlice tToken_Token) w χ a123 r122 c124 ∧ Amb w χ) (fun s => μ2 s) (0) ?_ ?_
       ·exact ⟨ρ, _, hm0, hS.sel [0, 4, 5, 6, 7, 8] [] kr, hO, h126, hAmb⟩
       ·rintro k_130 a w191 ⟨ρ, χ190, hI, hS, hO, h129, hAmb⟩
        replace hm := hm k_130 hI
        clear hI hm0
        refine wseq ?_
        refine regO ?_
        refine opsP T hS 3 (sp := []) (ks := [0, 4, 5, 6, 7, 8, 46, 47, 48]) (bs := []) (sy' := ⟨[(0, V (.string (bs s_))), (4, I r108.2.1), (5, I r108.2.2), (6, V (.slice a123 r122.length c124)), (7, I i_127), (8, I k_130), (46, I k_130), (47, V (.slice a123 r122.length c124)), (48, I i_127)], []⟩) kr ?_
        intro a hS
        obtain ⟨hq, hm⟩ := hm
        refine op1 (index (e := 47) (k := .i64) T hS kr kr kr kr h129 kr kr hq.1 hq.2 ?_)
        intro A131 a h132 hS
        clear hq
        refine op1 (load1 T hS kr kr kr h132 rfl kr ?_)
        intro v133 a hv hS
        obtain ⟨a134, c135, hv, h136⟩ := hv
        cases hv
        replace hm := hm (h136.sm kr)
        refine endP T hS (sp := []) (ks := [0, 4, 5, 6, 7, 8, 52]) (bs := []) (sy' := ⟨[(0, V (.string (bs s_))), (4, I r108.2.1), (5, I r108.2.2), (6, V (.slice a123 r122.length c124)), (7, I i_127), (8, I k_130), (52, B (decide (k_130 < (((gi r122 i_127).length : Nat) : Int))))], []⟩) kr ?_
        intro a hS
        refine wcond hS (b := decide (k_130 < (((gi r122 i_127).length : Nat) : Int))) kr (fun hb => ?_) (fun hb => ?_)
        ·replace hm := hm.1 hb
         refine wskip ?_
         refine wseq ?_
         refine wblock ?_
         refine regO ?_
         refine opsP T hS 2 (sp := []) (ks := [0, 4, 5, 6, 7, 8, 55, 56]) (bs := []) (sy' := ⟨[(0, V (.string (bs s_))), (4, I r108.2.1), (5, I r108.2.2), (6, V (.slice a123 r122.length c124)), (7, I i_127), (8, I k_130), (55, V (.slice a123 r122.length c124)), (56, I i_127)], []⟩) kr ?_
         intro a hS
         obtain ⟨hq, hm⟩ := hm
         refine op1 (index (e := 47) (k := .i64) T hS kr kr kr kr h129 kr kr hq.1 hq.2 ?_)
         intro A137 a h138 hS
         clear hq
         refine op1 (load1 T hS kr kr kr h138 rfl kr ?_)
         intro v139 a hv hS
         obtain ⟨a140, c141, hv, h142⟩ := hv
         cases hv
         replace hm := hm (h142.sm kr)
         refine opsP T hS 1 (sp := []) (ks := [0, 4, 5, 6, 7, 8, 58, 59]) (bs := []) (sy' := ⟨[(0, V (.string (bs s_))), (4, I r108.2.1), (5, I r108.2.2), (6, V (.slice a123 r122.length c124)), (7, I i_127), (8, I k_130), (58, V (.slice a140 (gi r122 i_127).length c141)), (59, I k_130)], []⟩) kr ?_
         intro a hS
         obtain ⟨hq, hm⟩ := hm
         refine op1 (index (e := 49) (k := .i64) T hS kr kr kr kr h142 kr kr hq.1 hq.2 ?_)
         intro A143 a h144 hS
         clear hq
         refine op1 (loadA T hS kr kr kr h144 kr kr ?_)
         intro v145 a hv hS
         subst hv
         refine endM T hS (sp := []) (ks := [0, 4, 5, 6, 7, 8, 9]) (bs := [10]) (sy' := ⟨[(0, V (.string (bs s_))), (4, I r108.2.1), (5, I r108.2.2), (6, V (.slice a123 r122.length c124)), (7, I i_127), (8, I k_130), (9, Pt 10 0)], [(10, (49, [I ((gi (gi r122 i_127) k_130).Line), I ((gi (gi r122 i_127) k_130).At), V (.string (bs ((gi (gi r122 i_127) k_130).Text)))]))]⟩) kr ?_
         intro ρ a w188 χ189 hS hE hr
         replace hO := hO.mv hE rfl rfl
         replace h129 := h129.mv hE rfl
         replace hAmb := hAmb.mv hE rfl
         clear hE hr
         refine regP T hS (sp := [66, 70, 79]) (ks := [0, 4, 5, 6, 7, 8, 83]) (bs := []) (sy' := ⟨[(0, V (.string (bs s_))), (4, I r108.2.1), (5, I r108.2.2), (6, V (.slice a123 r122.length c124)), (7, I i_127), (8, I k_130), (83, B (((((gi (gi r122 i_127) k_130).At) == r108.2.1) && (r108.2.2 != 4)) || (((IntKind.i64.wrap (((gi (gi r122 i_127) k_130).At) + ((((gi (gi r122 i_127) k_130).Text).length : Nat) : Int))) == r108.2.1) && (r108.2.2 == 4))))], []⟩) kr ?_
         intro a hS
         refine wcond hS (b := (((((gi (gi r122 i_127) k_130).At) == r108.2.1) && (r108.2.2 != 4)) || (((IntKind.i64.wrap (((gi (gi r122 i_127) k_130).At) + ((((gi (gi r122 i_127) k_130).Text).length : Nat) : Int))) == r108.2.1) && (r108.2.2 == 4)))) kr (fun hb => ?_) (fun hb => ?_)
         ·replace hm := hm.1 hb
          refine wseq ?_
          refine regO ?_
          refine opsP T hS 2 (sp := []) (ks := [0, 6, 7, 84, 85]) (bs := []) (sy' := ⟨[(0, V (.string (bs s_))), (6, V (.slice a123 r122.length c124)), (7, I i_127), (84, V (.slice a123 r122.length c124)), (85, I i_127)], []⟩) kr ?_
          intro a hS
          obtain ⟨hq, hm⟩ := hm
          refine op1 (index (e := 47) (k := .i64) T hS kr kr kr kr h129 kr kr hq.1 hq.2 ?_)
          intro A146 a h147 hS
          clear hq
          refine op1 (load1 T hS kr kr kr h147 rfl kr ?_)
          intro v148 a hv hS
          obtain ⟨a149, c150, hv, h151⟩ := hv
          cases hv
          replace hm := hm (h151.sm kr)
          obtain ⟨hq, hm⟩ := hm
          refine op1 (index (e := 49) (k := .i64) T hS kr kr kr kr h151 kr kr hq.1 hq.2 ?_)
          intro A152 a h153 hS
          clear hq
          refine op1 (fieldA (off := 1) (fsz := 1) (ft := 3) (TF := tI) (y := (gi (gi r122 i_127) 0).At) T hS kr kr kr h153 kr kr kr (fun cs h => Token_Token_f1 h) ?_)
          intro A154 a h155 hS
          refine op1 (load1 T hS kr kr kr h155 rfl kr ?_)
          intro v156 a hv hS
          cases hv
          refine endP T hS (sp := []) (ks := [0, 6, 7, 91]) (bs := []) (sy' := ⟨[(0, V (.string (bs s_))), (6, V (.slice a123 r122.length c124)), (7, I i_127), (91, B (((gi (gi r122 i_127) 0).At) == 0))], []⟩) kr ?_
          intro a hS
          refine wcond hS (b := (((gi (gi r122 i_127) 0).At) == 0)) kr (fun hb => ?_) (fun hb => ?_)
          ·replace hm := hm.1 hb
           refine regO ?_
           refine op1 (call hS kr kr hb7 kr (fun _ _ => rfl) (k7 _ _ hAmb) ?_)
           intro v157 a w158 χ159 hE hp hS
           replace hO := hO.mv hE rfl rfl
           replace h129 := h129.mv hE rfl
           replace hAmb := hAmb.mv hE rfl
           clear hE
           obtain ⟨r160, hr⟩ : ∃ r, law26_awake = r := ⟨_, rfl⟩
           replace hm := hm r160 hr
           rw [hr] at hp
           clear hr
           subst hp
           refine endP T hS (sp := []) (ks := [2]) (bs := []) (sy' := ⟨[(2, B r160)], []⟩) kr ?_
           intro a hS
           refine wret ?_
           exact fin T hS hO (fun c => c) rfl (r := [.bool r160]) kr (fun χ' hM hC => ⟨r160, hm, rfl⟩)
          ·replace hm := hm.2 hb
           refine wskip ?_
           refine regO ?_
           refine opsP T hS 3 (sp := []) (ks := [94, 95, 96]) (bs := []) (sy' := ⟨[(94, V (.string (bs s_))), (95, V (.slice a123 r122.length c124)), (96, I i_127)], []⟩) kr ?_
           intro a hS
           obtain ⟨hq, hm⟩ := hm
           refine op1 (index (e := 47) (k := .i64) T hS kr kr kr kr h129 kr kr hq.1 hq.2 ?_)
           intro A161 a h162 hS
           clear hq
           refine op1 (load1 T hS kr kr kr h162 rfl kr ?_)
           intro v163 a hv hS
           obtain ⟨a164, c165, hv, h166⟩ := hv
           cases hv
           replace hm := hm (h166.sm kr)
           obtain ⟨hq, hm⟩ := hm
           refine op1 (index (e := 49) (k := .i64) T hS kr kr kr kr h166 kr kr hq.1 hq.2 ?_)
           intro A167 a h168 hS
           clear hq
           refine op1 (fieldA (off := 1) (fsz := 1) (ft := 3) (TF := tI) (y := (gi (gi r122 i_127) 0).At) T hS kr kr kr h168 kr kr kr (fun cs h => Token_Token_f1 h) ?_)
           intro A169 a h170 hS
           refine op1 (load1 T hS kr kr kr h170 rfl kr ?_)
           intro v171 a hv hS
           cases hv
           obtain ⟨hq, hm⟩ := hm
           refine op1 (sslice0 (kh := .i64) (s := s_) T hS kr kr kr kr kr hq.1 hq.2 ?_)
           intro a hS
           clear hq
           refine op1 (call hS kr kr hb8 kr (fun _ _ => rfl) (k8 _ _ (s_.take ((gi (gi r122 i_127) 0).At).toNat)) ?_)
           intro v172 a w173 χ174 hE hp hS
           replace hO := hO.mv hE rfl rfl
           replace h129 := h129.mv hE rfl
           replace hAmb := hAmb.mv hE rfl
           replace h162 := h162.mv hE rfl
           replace h166 := h166.mv hE rfl
           replace h168 := h168.mv hE rfl
           replace h170 := h170.mv hE rfl
           clear hE
           obtain ⟨a176, c177, a179, c180, hp, h178, h181⟩ := hp
           obtain ⟨r175, hr⟩ : ∃ r, histtext_Parse (s_.take ((gi (gi r122 i_127) 0).At).toNat) = r := ⟨_, rfl⟩
           replace hm := hm r175 hr
           rw [hr] at hp h178 h181
           clear hr
           subst hp
           replace hm := hm (h178.sm kr)
           replace hm := hm (h181.sm kr)
           refine endM T hS (sp := []) (ks := [12]) (bs := []) (sy' := ⟨[(12, I r175.2.2)], []⟩) kr ?_
           intro ρ a w186 χ187 hS hE hr
           replace hO := hO.mv hE rfl rfl
           replace hAmb := hAmb.mv hE rfl
           clear hE hr
           refine regO ?_
           refine opsP T hS 23 (sp := [109, 113, 117, 121, 125]) (ks := [129]) (bs := []) (sy' := ⟨[(129, B ((((((r175.2.2 == 0) || (r175.2.2 == 4)) || (r175.2.2 == 2)) || (r175.2.2 == 30)) || (r175.2.2 == 31)) || (r175.2.2 == 32)))], []⟩) kr ?_
           intro a hS
           rcases Bool.eq_false_or_eq_true ((((((r175.2.2 == 0) || (r175.2.2 == 4)) || (r175.2.2 == 2)) || (r175.2.2 == 30)) || (r175.2.2 == 31)) || (r175.2.2 == 32)) with hb | hb
           ·replace hS := hS.lit (t := 129) kr hb
            replace hm := hm.1 hb
            refine op1 (call hS kr kr hb7 kr (fun _ _ => rfl) (k7 _ _ hAmb) ?_)
            intro v182 a w183 χ184 hE hp hS
            replace hO := hO.mv hE rfl rfl
            replace hAmb := hAmb.mv hE rfl
            clear hE
            obtain ⟨r185, hr⟩ : ∃ r, law26_awake = r := ⟨_, rfl⟩
            replace hm := hm r185 hr
            rw [hr] at hp
            clear hr
            subst hp
            refine endP T hS (sp := []) (ks := [2]) (bs := []) (sy' := ⟨[(2, B r185)], []⟩) kr ?_
            intro a hS
            refine wret ?_
            exact fin T hS hO (fun c => c) rfl (r := [.bool r185]) kr (fun χ' hM hC => ⟨r185, hm, rfl⟩)
           ·replace hS := hS.lit (t := 129) kr hb
            replace hm := hm.2 hb
            refine endP T hS (sp := []) (ks := [2]) (bs := []) (sy' := ⟨[(2, B false)], []⟩) kr ?_
            intro a hS
            refine wret ?_
            exact fin T hS hO (fun c => c) rfl (r := [.bool false]) kr (fun χ' hM hC => ⟨false, hm, rfl⟩)
         ·replace hm := hm.2 hb
          refine wskip ?_
          refine region (endP T hS (sp := []) (ks := [0, 4, 5, 6, 7, 8]) (bs := []) (sy' := ⟨[(0, V (.string (bs s_))), (4, I r108.2.1), (5, I r108.2.2), (6, V (.slice a123 r122.length c124)), (7, I i_127), (8, I (IntKind.i64.wrap (k_130 + 1)))], []⟩) kr ?_)
          intro a hS
          exact ⟨IntKind.i64.wrap (k_130 + 1), ⟨ρ, _, hm.1, hS.sel [0, 4, 5, 6, 7, 8] [] kr, hO, h129, hAmb⟩, hm.2⟩
        ·replace hm := hm.2 hb
         refine wexit (by rfl) ?_
         exact ⟨ρ, _, hm, hS.sel [0, 4, 5, 6, 7] [] kr, hO, h129, hAmb⟩
      ·rintro a w193 ⟨ρ, χ192, hm, hS, hO, h128, hAmb⟩
       unfold VC6_J2 at hm
       refine region (endP T hS (sp := []) (ks := [0, 4, 5, 6, 7]) (bs := []) (sy' := ⟨[(0, V (.string (bs s_))), (4, I r108.2.1), (5, I r108.2.2), (6, V (.slice a123 r122.length c124)), (7, I (IntKind.i64.wrap (i_127 + 1)))], []⟩) kr ?_)
       intro a hS
       exact ⟨IntKind.i64.wrap (i_127 + 1), ⟨ρ, _, hm.1, hS.sel [0, 4, 5, 6, 7] [] kr, hO, h128, hAmb⟩, hm.2⟩
     ·replace hm := hm.2 hb
      refine wexit (by rfl) ?_
      exact ⟨ρ, _, hm, hS.sel [] [] kr, hO, hAmb⟩
   ·rintro a w197 ⟨ρ, χ196, hm, hS, hO, hAmb⟩
    unfold VC6_J1 at hm
    refine regP T hS (sp := []) (ks := [2]) (bs := []) (sy' := ⟨[(2, B false)], []⟩) kr ?_
    intro a hS
    refine wret ?_
    exact fin T hS hO (fun c => c) rfl (r := [.bool false]) kr (fun χ' hM hC => ⟨false, hm, rfl⟩)
end Go.Proofs.YtcjldfbgccmpkaaDoor
