/- Walks: each function returns what its condition asks. Condition: the contracts of its callees, handed in. -/
import Derived.Test.YtancoeikfkebfaaDoorMWalksS
set_option linter.all false
namespace Go.Proofs.YtancoeikfkebfaaDoor
open Go Go.Sv
set_option maxHeartbeats 1000000
/-- replevin/replevinlaw06.DimacsPlaces -/
theorem W5 (k16 : S16) (k7 : S7) (k8 : S8) (w0 : World) (χ0 : Nat → Nat) (s_ : List UInt8) (behind : List UInt8) (Q : Bool → Prop) (hm : VC5 s_ behind Q) (hAmb : Amb w0 χ0) :
  Ret Tryd.prog 5 #[.string (bs s_), .string (bs behind)] xnone w0 χ0 (fun w χ' v => ∃ r, Q r ∧ v = .bool r) := by
 unfold VC5 at hm
 refine enter Tryd.func5 rfl (vals := [.string (bs s_), .string (bs behind)]) kr ?_
 intro ρ a hS hO hM
 replace hAmb := hAmb.m0 hM
 clear hM
 refine rP T hS ⟨[(0, Z s_), (1, Z behind)], []⟩ fun a hS => ?_
 refine wseq ?_
 refine rP T hS ⟨[(0, Z s_), (1, Z behind), (22, B ((decide (((s_.length : Nat) : Int) > 3000)) || (decide (((behind.length : Nat) : Int) > 300))))], []⟩ (sp := [18]) fun a hS => ?_
 refine wcond hS (b := ((decide (((s_.length : Nat) : Int) > 3000)) || (decide (((behind.length : Nat) : Int) > 300)))) kr (fun hb => ?_) (fun hb => ?_)
 ·replace hm := hm.1 hb
  refine regO ?_
  refine op1 (call hS kr kr hb7 kr (fun _ _ => rfl) (k7 _ _ hAmb) ?_)
  intro v101 a w102 χ103 hE hp hS
  replace hO := hO.mv hE rfl rfl
  replace hAmb := hAmb.mv hE rfl
  clear hE
  obtain ⟨r104, hr⟩ : ∃ r, law06_awake = r := ⟨_, rfl⟩
  replace hm := hm r104 hr
  rw [hr] at hp
  clear hr
  subst hp
  refine eP T hS ⟨[(4, B r104)], []⟩ fun a hS => ?_
  refine wret ?_
  exact fin T hS hO (fun c => c) rfl (r := [.bool r104]) kr (fun χ' hM hC => ⟨r104, hm, rfl⟩)
 ·replace hm := hm.2 hb
  refine wskip ?_
  refine regO ?_
  refine oP T hS 1 ⟨[(0, Z s_), (1, Z behind), (25, Z s_)], []⟩ fun a hS => ?_
  refine op1 (call hS kr kr hb8 kr (fun _ _ => rfl) (k8 _ _ s_) ?_)
  intro v105 a w106 χ107 hE hp hS
  replace hO := hO.mv hE rfl rfl
  replace hAmb := hAmb.mv hE rfl
  clear hE
  obtain ⟨a109, c110, hp, h111⟩ := hp
  obtain ⟨r108, hr⟩ : ∃ r, dimacs_Parse s_ = r := ⟨_, rfl⟩
  replace hm := hm r108 hr
  rw [hr] at hp h111
  clear hr
  subst hp
  replace hm := hm (h111.sm kr)
  refine eM T hS ⟨[(0, Z s_), (1, Z behind), (6, I r108.2.1), (7, I r108.2.2)], []⟩ fun ρ a w185 χ186 hS hE hr => ?_
  replace hO := hO.mv hE rfl rfl
  replace hAmb := hAmb.mv hE rfl
  clear hE hr
  refine wseq ?_
  refine rP T hS ⟨[(0, Z s_), (1, Z behind), (6, I r108.2.1), (7, I r108.2.2), (37, B ((decide (r108.2.1 < 0)) || (decide (r108.2.1 > ((s_.length : Nat) : Int)))))], []⟩ (sp := [32]) fun a hS => ?_
  refine wcond hS (b := ((decide (r108.2.1 < 0)) || (decide (r108.2.1 > ((s_.length : Nat) : Int))))) kr (fun hb => ?_) (fun hb => ?_)
  ·replace hm := hm.1 hb
   refine rP T hS ⟨[(4, B false)], []⟩ fun a hS => ?_
   refine wret ?_
   exact fin T hS hO (fun c => c) rfl (r := [.bool false]) kr (fun χ' hM hC => ⟨false, hm, rfl⟩)
  ·replace hm := hm.2 hb
   refine wskip ?_
   refine wseq ?_
   refine rP T hS ⟨[(0, Z s_), (1, Z behind), (6, I r108.2.1), (7, I r108.2.2), (43, B ((r108.2.2 == 0) || (r108.2.2 == 4)))], []⟩ (sp := [40]) fun a hS => ?_
   refine wcond hS (b := ((r108.2.2 == 0) || (r108.2.2 == 4))) kr (fun hb => ?_) (fun hb => ?_)
   ·replace hm := hm.1 hb
    refine regO ?_
    refine oP T hS 5 ⟨[(48, B (r108.2.1 == ((s_.length : Nat) : Int)))], []⟩ fun a hS => ?_
    rcases Bool.eq_false_or_eq_true (r108.2.1 == ((s_.length : Nat) : Int)) with hb | hb
    ·replace hS := hS.lit (t := 48) kr hb
     replace hm := hm.1 hb
     refine op1 (call hS kr kr hb7 kr (fun _ _ => rfl) (k7 _ _ hAmb) ?_)
     intro v112 a w113 χ114 hE hp hS
     replace hO := hO.mv hE rfl rfl
     replace hAmb := hAmb.mv hE rfl
     clear hE
     obtain ⟨r115, hr⟩ : ∃ r, law06_awake = r := ⟨_, rfl⟩
     replace hm := hm r115 hr
     rw [hr] at hp
     clear hr
     subst hp
     refine eP T hS ⟨[(4, B r115)], []⟩ fun a hS => ?_
     refine wret ?_
     exact fin T hS hO (fun c => c) rfl (r := [.bool r115]) kr (fun χ' hM hC => ⟨r115, hm, rfl⟩)
    ·replace hS := hS.lit (t := 48) kr hb
     replace hm := hm.2 hb
     refine eP T hS ⟨[(4, B false)], []⟩ fun a hS => ?_
     refine wret ?_
     exact fin T hS hO (fun c => c) rfl (r := [.bool false]) kr (fun χ' hM hC => ⟨false, hm, rfl⟩)
   ·replace hm := hm.2 hb
    refine wskip ?_
    refine rP T hS ⟨[(0, Z s_), (1, Z behind), (6, I r108.2.1), (7, I r108.2.2), (8, I (-1))], []⟩ fun a hS => ?_
    refine regO ?_
    refine oP T hS 1 ⟨[(0, Z s_), (1, Z behind), (6, I r108.2.1), (7, I r108.2.2), (8, I (-1)), (51, Z s_)], []⟩ fun a hS => ?_
    obtain ⟨hq, hm⟩ := hm
    refine op1 (call hS kr kr hb16 kr (fun _ _ => rfl) (k16 _ _ s_ hq) ?_)
    intro v116 a w117 χ118 hE hp hS
    clear hq
    replace hO := hO.mv hE rfl rfl
    replace hAmb := hAmb.mv hE rfl
    clear hE
    obtain ⟨a120, c121, hp, h122⟩ := hp
    obtain ⟨r119, hr⟩ : ∃ r, token_Lines s_ = r := ⟨_, rfl⟩
    replace hm := hm r119 hr
    rw [hr] at hp h122
    clear hr
    subst hp
    replace hm := hm (h122.sm kr)
    refine eP T hS ⟨[(0, Z s_), (1, Z behind), (6, I r108.2.1), (7, I r108.2.2), (8, I (-1)), (9, Sl a120 r119 c121)], []⟩ fun a hS => ?_
    refine wcut (fun a w => ∃ (ρ : Nat → Nat) (χ : Nat → Nat) (end_123 : Int), VC5_J1 s_ behind Q r108 end_123 ∧ St Tryd.f5.ntmps ⟨[(0, Z s_), (1, Z behind), (6, I r108.2.1), (7, I r108.2.2), (8, I end_123)], []⟩ ρ a w χ ∧ Old w0 χ0 w χ ∧ Amb w χ) ?_ ?_
    ·refine rP T hS ⟨[(0, Z s_), (1, Z behind), (6, I r108.2.1), (7, I r108.2.2), (8, I (-1)), (9, Sl a120 r119 c121), (10, I 0)], []⟩ fun a hS => ?_
     refine wblock ?_
     obtain ⟨I1, μ1, hm0, hm⟩ := hm
     refine wloop (σ := Int × Int) (fun s a w => ∃ (ρ : Nat → Nat) (χ : Nat → Nat), I1 s.1 s.2 ∧ St Tryd.f5.ntmps ⟨[(0, Z s_), (1, Z behind), (6, I r108.2.1), (7, I r108.2.2), (8, I s.1), (9, Sl a120 r119 c121), (10, I s.2)], []⟩ ρ a w χ ∧ Old w0 χ0 w χ ∧ RS (tSlice tToken_Token) w χ a120 r119 c121 ∧ Amb w χ) (fun s => μ1 s.1 s.2) (⟨(-1), 0⟩) ?_ ?_
     ·exact ⟨ρ, _, hm0, hS.sl _, hO, h122, hAmb⟩
     ·rintro ⟨end_137, i_139⟩ a w182 ⟨ρ, χ181, hI, hS, hO, h138, hAmb⟩
      replace hm := hm end_137 i_139 hI
      clear hI hm0
      refine wseq ?_
      refine rP T hS ⟨[(0, Z s_), (1, Z behind), (6, I r108.2.1), (7, I r108.2.2), (8, I end_137), (9, Sl a120 r119 c121), (10, I i_139), (56, B (decide (i_139 < ((r119.length : Nat) : Int))))], []⟩ fun a hS => ?_
      refine wcond hS (b := decide (i_139 < ((r119.length : Nat) : Int))) kr (fun hb => ?_) (fun hb => ?_)
      ·replace hm := hm.1 hb
       refine wskip ?_
       refine wcut (fun a w => ∃ (ρ : Nat → Nat) (χ : Nat → Nat) (end_140 : Int), VC5_J2 I1 μ1 end_137 i_139 end_140 ∧ St Tryd.f5.ntmps ⟨[(0, Z s_), (1, Z behind), (6, I r108.2.1), (7, I r108.2.2), (8, I end_140), (9, Sl a120 r119 c121), (10, I i_139)], []⟩ ρ a w χ ∧ Old w0 χ0 w χ ∧ RS (tSlice tToken_Token) w χ a120 r119 c121 ∧ Amb w χ) ?_ ?_
       ·refine wblock ?_
        refine rP T hS ⟨[(0, Z s_), (1, Z behind), (6, I r108.2.1), (7, I r108.2.2), (8, I end_137), (9, Sl a120 r119 c121), (10, I i_139), (11, I 0)], []⟩ fun a hS => ?_
        refine wblock ?_
        obtain ⟨I2, μ2, hm0, hm⟩ := hm
        refine wloop (σ := Int × Int) (fun s a w => ∃ (ρ : Nat → Nat) (χ : Nat → Nat), I2 s.1 s.2 ∧ St Tryd.f5.ntmps ⟨[(0, Z s_), (1, Z behind), (6, I r108.2.1), (7, I r108.2.2), (8, I s.1), (9, Sl a120 r119 c121), (10, I i_139), (11, I s.2)], []⟩ ρ a w χ ∧ Old w0 χ0 w χ ∧ RS (tSlice tToken_Token) w χ a120 r119 c121 ∧ Amb w χ) (fun s => μ2 s.1 s.2) (⟨end_137, 0⟩) ?_ ?_
        ·exact ⟨ρ, _, hm0, hS.sl _, hO, h138, hAmb⟩
        ·rintro ⟨end_142, k_144⟩ a w178 ⟨ρ, χ177, hI, hS, hO, h143, hAmb⟩
         replace hm := hm end_142 k_144 hI
         clear hI hm0
         refine wseq ?_
         refine regO ?_
         refine oP T hS 3 ⟨[(0, Z s_), (1, Z behind), (6, I r108.2.1), (7, I r108.2.2), (8, I end_142), (9, Sl a120 r119 c121), (10, I i_139), (11, I k_144), (59, I k_144), (60, Sl a120 r119 c121), (61, I i_139)], []⟩ fun a hS => ?_
         obtain ⟨hq, hm⟩ := hm
         refine op1 (index (e := 42) (k := .i64) T hS kr kr kr kr h143 kr kr hq.1 hq.2 ?_)
         intro A145 a h146 hS
         clear hq
         refine op1 (load1 T hS kr kr kr h146 rfl kr ?_)
         intro v147 a hv hS
         obtain ⟨a148, c149, hv, h150⟩ := hv
         cases hv
         replace hm := hm (h150.sm kr)
         refine eP T hS ⟨[(0, Z s_), (1, Z behind), (6, I r108.2.1), (7, I r108.2.2), (8, I end_142), (9, Sl a120 r119 c121), (10, I i_139), (11, I k_144), (65, B (decide (k_144 < (((gi r119 i_139).length : Nat) : Int))))], []⟩ fun a hS => ?_
         refine wcond hS (b := decide (k_144 < (((gi r119 i_139).length : Nat) : Int))) kr (fun hb => ?_) (fun hb => ?_)
         ·replace hm := hm.1 hb
          refine wskip ?_
          refine wcut (fun a w => ∃ (ρ : Nat → Nat) (χ : Nat → Nat) (end_151 : Int), VC5_J3 I2 μ2 end_142 k_144 end_151 ∧ St Tryd.f5.ntmps ⟨[(0, Z s_), (1, Z behind), (6, I r108.2.1), (7, I r108.2.2), (8, I end_151), (9, Sl a120 r119 c121), (10, I i_139), (11, I k_144)], []⟩ ρ a w χ ∧ Old w0 χ0 w χ ∧ RS (tSlice tToken_Token) w χ a120 r119 c121 ∧ Amb w χ) ?_ ?_
          ·refine wblock ?_
           refine regO ?_
           refine oP T hS 2 ⟨[(0, Z s_), (1, Z behind), (6, I r108.2.1), (7, I r108.2.2), (8, I end_142), (9, Sl a120 r119 c121), (10, I i_139), (11, I k_144), (68, Sl a120 r119 c121), (69, I i_139)], []⟩ fun a hS => ?_
           obtain ⟨hq, hm⟩ := hm
           refine op1 (index (e := 42) (k := .i64) T hS kr kr kr kr h143 kr kr hq.1 hq.2 ?_)
           intro A153 a h154 hS
           clear hq
           refine op1 (load1 T hS kr kr kr h154 rfl kr ?_)
           intro v155 a hv hS
           obtain ⟨a156, c157, hv, h158⟩ := hv
           cases hv
           replace hm := hm (h158.sm kr)
           refine oP T hS 1 ⟨[(0, Z s_), (1, Z behind), (6, I r108.2.1), (7, I r108.2.2), (8, I end_142), (9, Sl a120 r119 c121), (10, I i_139), (11, I k_144), (71, Sl a156 (gi r119 i_139) c157), (72, I k_144)], []⟩ fun a hS => ?_
           obtain ⟨hq, hm⟩ := hm
           refine op1 (index (e := 44) (k := .i64) T hS kr kr kr kr h158 kr kr hq.1 hq.2 ?_)
           intro A159 a h160 hS
           clear hq
           refine op1 (fieldA (off := 1) (fsz := 1) (ft := 3) (TF := tI) (y := (gi (gi r119 i_139) k_144).At) T hS kr kr kr h160 kr kr kr (fun cs h => Token_Token_f1 h) ?_)
           intro A161 a h162 hS
           refine op1 (load1 T hS kr kr kr h162 rfl kr ?_)
           intro v163 a hv hS
           cases hv
           refine eP T hS ⟨[(0, Z s_), (1, Z behind), (6, I r108.2.1), (7, I r108.2.2), (8, I end_142), (9, Sl a120 r119 c121), (10, I i_139), (11, I k_144), (77, B (((gi (gi r119 i_139) k_144).At) == r108.2.1))], []⟩ fun a hS => ?_
           refine wcond hS (b := (((gi (gi r119 i_139) k_144).At) == r108.2.1)) kr (fun hb => ?_) (fun hb => ?_)
           ·replace hm := hm.1 hb
            refine region ?_
            refine oP T hS 3 ⟨[(0, Z s_), (1, Z behind), (6, I r108.2.1), (7, I r108.2.2), (8, I end_142), (9, Sl a120 r119 c121), (10, I i_139), (11, I k_144), (78, I r108.2.1), (79, Sl a120 r119 c121), (80, I i_139)], []⟩ fun a hS => ?_
            obtain ⟨hq, hm⟩ := hm
            refine op1 (index (e := 42) (k := .i64) T hS kr kr kr kr h143 kr kr hq.1 hq.2 ?_)
            intro A164 a h165 hS
            clear hq
            refine op1 (load1 T hS kr kr kr h165 rfl kr ?_)
            intro v166 a hv hS
            obtain ⟨a167, c168, hv, h169⟩ := hv
            cases hv
            replace hm := hm (h169.sm kr)
            refine oP T hS 1 ⟨[(0, Z s_), (1, Z behind), (6, I r108.2.1), (7, I r108.2.2), (8, I end_142), (9, Sl a120 r119 c121), (10, I i_139), (11, I k_144), (78, I r108.2.1), (82, Sl a167 (gi r119 i_139) c168), (83, I k_144)], []⟩ fun a hS => ?_
            obtain ⟨hq, hm⟩ := hm
            refine op1 (index (e := 44) (k := .i64) T hS kr kr kr kr h169 kr kr hq.1 hq.2 ?_)
            intro A170 a h171 hS
            clear hq
            refine op1 (fieldA (off := 2) (fsz := 1) (ft := 9) (TF := tStr) (y := (gi (gi r119 i_139) k_144).Text) T hS kr kr kr h171 kr kr kr (fun cs h => Token_Token_f2 h) ?_)
            intro A172 a h173 hS
            refine op1 (load1 T hS kr kr kr h173 rfl kr ?_)
            intro v174 a hv hS
            cases hv
            refine eP T hS ⟨[(0, Z s_), (1, Z behind), (6, I r108.2.1), (7, I r108.2.2), (8, I (IntKind.i64.wrap (r108.2.1 + ((((gi (gi r119 i_139) k_144).Text).length : Nat) : Int)))), (9, Sl a120 r119 c121), (10, I i_139), (11, I k_144)], []⟩ fun a hS => ?_
            exact ⟨ρ, _, IntKind.i64.wrap (r108.2.1 + ((((gi (gi r119 i_139) k_144).Text).length : Nat) : Int)), hm, hS.sl _, hO, h143, hAmb⟩
           ·replace hm := hm.2 hb
            refine wskip ?_
            exact ⟨ρ, _, end_142, hm, hS.sl _, hO, h143, hAmb⟩
          ·rintro a w176 ⟨ρ, χ175, end_151, hm, hS, hO, h152, hAmb⟩
           unfold VC5_J3 at hm
           refine region (eP T hS ⟨[(0, Z s_), (1, Z behind), (6, I r108.2.1), (7, I r108.2.2), (8, I end_151), (9, Sl a120 r119 c121), (10, I i_139), (11, I (IntKind.i64.wrap (k_144 + 1)))], []⟩ fun a hS => ?_)
           exact ⟨⟨end_151, IntKind.i64.wrap (k_144 + 1)⟩, ⟨ρ, _, hm.1, hS.sl _, hO, h152, hAmb⟩, hm.2⟩
         ·replace hm := hm.2 hb
          refine wexit (by rfl) ?_
          exact ⟨ρ, _, end_142, hm, hS.sl _, hO, h143, hAmb⟩
       ·rintro a w180 ⟨ρ, χ179, end_140, hm, hS, hO, h141, hAmb⟩
        unfold VC5_J2 at hm
        refine region (eP T hS ⟨[(0, Z s_), (1, Z behind), (6, I r108.2.1), (7, I r108.2.2), (8, I end_140), (9, Sl a120 r119 c121), (10, I (IntKind.i64.wrap (i_139 + 1)))], []⟩ fun a hS => ?_)
        exact ⟨⟨end_140, IntKind.i64.wrap (i_139 + 1)⟩, ⟨ρ, _, hm.1, hS.sl _, hO, h141, hAmb⟩, hm.2⟩
      ·replace hm := hm.2 hb
       refine wexit (by rfl) ?_
       exact ⟨ρ, _, end_137, hm, hS.sl _, hO, hAmb⟩
    ·rintro a w184 ⟨ρ, χ183, end_123, hm, hS, hO, hAmb⟩
     unfold VC5_J1 at hm
     refine wseq ?_
     refine rP T hS ⟨[(0, Z s_), (1, Z behind), (6, I r108.2.1), (7, I r108.2.2), (8, I end_123), (90, B (decide (end_123 < 0)))], []⟩ fun a hS => ?_
     refine wcond hS (b := decide (end_123 < 0)) kr (fun hb => ?_) (fun hb => ?_)
     ·replace hm := hm.1 hb
      refine rP T hS ⟨[(4, B false)], []⟩ fun a hS => ?_
      refine wret ?_
      exact fin T hS hO (fun c => c) rfl (r := [.bool false]) kr (fun χ' hM hC => ⟨false, hm, rfl⟩)
     ·replace hm := hm.2 hb
      refine wskip ?_
      refine regO ?_
      refine oP T hS 2 ⟨[(1, Z behind), (6, I r108.2.1), (7, I r108.2.2), (92, Z s_), (93, I end_123)], []⟩ fun a hS => ?_
      obtain ⟨hq, hm⟩ := hm
      refine op1 (sslice0 (kh := .i64) (s := s_) T hS kr kr kr kr kr hq.1 hq.2 ?_)
      intro a hS
      clear hq
      obtain ⟨hq, hm⟩ := hm
      refine op1 (sadd (p := (s_.take end_123.toNat)) (q := ([9] : List UInt8)) hS kr kr kr kr hq ?_)
      intro a hS
      clear hq
      refine oP T hS 1 ⟨[(6, I r108.2.1), (7, I r108.2.2), (95, Z ((s_.take end_123.toNat) ++ ([9] : List UInt8))), (96, Z behind)], []⟩ fun a hS => ?_
      obtain ⟨hq, hm⟩ := hm
      refine op1 (sadd (p := ((s_.take end_123.toNat) ++ ([9] : List UInt8))) (q := behind) hS kr kr kr kr hq ?_)
      intro a hS
      clear hq
      refine op1 (call hS kr kr hb8 kr (fun _ _ => rfl) (k8 _ _ (((s_.take end_123.toNat) ++ ([9] : List UInt8)) ++ behind)) ?_)
      intro v124 a w125 χ126 hE hp hS
      replace hO := hO.mv hE rfl rfl
      replace hAmb := hAmb.mv hE rfl
      clear hE
      obtain ⟨a128, c129, hp, h130⟩ := hp
      obtain ⟨r127, hr⟩ : ∃ r, dimacs_Parse (((s_.take end_123.toNat) ++ ([9] : List UInt8)) ++ behind) = r := ⟨_, rfl⟩
      replace hm := hm r127 hr
      rw [hr] at hp h130
      clear hr
      subst hp
      replace hm := hm (h130.sm kr)
      refine eM T hS ⟨[(6, I r108.2.1), (7, I r108.2.2), (13, I r127.2.1), (14, I r127.2.2)], []⟩ fun ρ a w135 χ136 hS hE hr => ?_
      replace hO := hO.mv hE rfl rfl
      replace hAmb := hAmb.mv hE rfl
      clear hE hr
      refine regO ?_
      refine oP T hS 9 ⟨[(110, B ((r127.2.1 == r108.2.1) && (r127.2.2 == r108.2.2)))], []⟩ (sp := [105]) fun a hS => ?_
      rcases Bool.eq_false_or_eq_true ((r127.2.1 == r108.2.1) && (r127.2.2 == r108.2.2)) with hb | hb
      ·replace hS := hS.lit (t := 110) kr hb
       replace hm := hm.1 hb
       refine op1 (call hS kr kr hb7 kr (fun _ _ => rfl) (k7 _ _ hAmb) ?_)
       intro v131 a w132 χ133 hE hp hS
       replace hO := hO.mv hE rfl rfl
       replace hAmb := hAmb.mv hE rfl
       clear hE
       obtain ⟨r134, hr⟩ : ∃ r, law06_awake = r := ⟨_, rfl⟩
       replace hm := hm r134 hr
       rw [hr] at hp
       clear hr
       subst hp
       refine eP T hS ⟨[(4, B r134)], []⟩ fun a hS => ?_
       refine wret ?_
       exact fin T hS hO (fun c => c) rfl (r := [.bool r134]) kr (fun χ' hM hC => ⟨r134, hm, rfl⟩)
      ·replace hS := hS.lit (t := 110) kr hb
       replace hm := hm.2 hb
       refine eP T hS ⟨[(4, B false)], []⟩ fun a hS => ?_
       refine wret ?_
       exact fin T hS hO (fun c => c) rfl (r := [.bool false]) kr (fun χ' hM hC => ⟨false, hm, rfl⟩)
end Go.Proofs.YtancoeikfkebfaaDoor
