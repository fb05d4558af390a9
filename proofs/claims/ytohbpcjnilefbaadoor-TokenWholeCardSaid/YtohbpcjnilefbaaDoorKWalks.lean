/- Walks: each function returns what its condition asks. Condition: the contracts of its callees, handed in. -/
import Derived.Test.YtohbpcjnilefbaaDoorKVC
import Derived.Test.YtohbpcjnilefbaaDoorKReps
import Derived.Test.YtohbpcjnilefbaaDoorKX
set_option linter.all false
namespace Go.Proofs.YtohbpcjnilefbaaDoor
open Go Go.Sv
set_option maxHeartbeats 1000000
theorem hb57 : hasBody Tryd.prog 57 = true := by kernel_rfl
theorem hb58 : hasBody Tryd.prog 58 = true := by kernel_rfl
theorem hb59 : hasBody Tryd.prog 59 = true := by kernel_rfl
def S56 : Prop := ∀ (w : World) (χ : Nat → Nat) (s_ : List UInt8) (c_ : Int), Ret Tryd.prog 56 #[.string (bs s_), .int .u8 c_] xnone w χ (fun w χ' v => v = .int .i64 (strings_IndexByte s_ c_))
theorem hb56 : hasBody Tryd.prog 56 = true := by kernel_rfl
def S108 : Prop := ∀ (w : World) (χ : Nat → Nat) (s_ : List UInt8) (substr : List UInt8), preOne s_ substr → Ret Tryd.prog 108 #[.string (bs s_), .string (bs substr)] xnone w χ (fun w χ' v => v = .int .i64 (internal_stringslite_Index s_ substr))
theorem hb108 : hasBody Tryd.prog 108 = true := by kernel_rfl
def S61 : Prop := ∀ (w : World) (χ : Nat → Nat) (i_ : Int), preI i_ → Amb w χ → Ret Tryd.prog 61 #[.int .i64 i_] xnone w χ (fun w χ' v => v = .string (bs (strconv_Itoa i_)))
theorem hb61 : hasBody Tryd.prog 61 = true := by kernel_rfl
def S55 : Prop := ∀ (w : World) (χ : Nat → Nat) (b_ : Int), Ret Tryd.prog 55 #[.int .u8 b_] xnone w χ (fun w χ' v => v = .bool (ref05_gap b_))
theorem hb55 : hasBody Tryd.prog 55 = true := by kernel_rfl
/-- replevin/replevinref05.gap -/
theorem W55 (w0 : World) (χ0 : Nat → Nat) (b_ : Int) (Q : Bool → Prop) (hm : VC55 b_ Q) :
    Ret Tryd.prog 55 #[.int .u8 b_] xnone w0 χ0 (fun w χ' v => ∃ r, Q r ∧ v = .bool r) := by
  unfold VC55 at hm
  refine enter Tryd.func55 rfl (vals := [.int .u8 b_]) (by kernel_rfl) ?_
  intro ρ a hS hO hM
  clear hM
  refine regP T hS (sp := []) (ks := [0]) (bs := []) (sy' := ⟨[(0, V (.int .u8 b_))], []⟩) (by kernel_rfl) ?_
  intro a hS
  refine regP T hS (sp := [5, 9]) (ks := [2]) (bs := []) (sy' := ⟨[(2, B (((b_ == 32) || (b_ == 9)) || (b_ == 13)))], []⟩) (by kernel_rfl) ?_
  intro a hS
  refine wret ?_
  exact fin T hS hO (fun c => c) rfl (r := [.bool (((b_ == 32) || (b_ == 9)) || (b_ == 13))]) (by kernel_rfl) (fun χ' hM hC => ⟨(((b_ == 32) || (b_ == 9)) || (b_ == 13)), hm, rfl⟩)
theorem C55 (v : ∀ (b_ : Int), VC55 b_ (fun r => r = ref05_gap b_)) : S55 := by
  intro w χ b_    
  refine (W55 w χ b_    _ (v b_)).mono ?_
  rintro _ _ _ _ ⟨r, rfl, h⟩
  exact h
def S21 : Prop := ∀ (w : World) (χ : Nat → Nat) (s_ : List UInt8), len1 s_ → Ret Tryd.prog 21 #[.string (bs s_)] xnone w χ (fun w χ' v => v = .bool (ref05_Word s_))
theorem hb21 : hasBody Tryd.prog 21 = true := by kernel_rfl
/-- replevin/replevinref05.Word -/
theorem W21 (k55 : S55) (w0 : World) (χ0 : Nat → Nat) (s_ : List UInt8) (Q : Bool → Prop) (hm : VC21 s_ Q) :
    Ret Tryd.prog 21 #[.string (bs s_)] xnone w0 χ0 (fun w χ' v => ∃ r, Q r ∧ v = .bool r) := by
  unfold VC21 at hm
  refine enter Tryd.func21 rfl (vals := [.string (bs s_)]) (by kernel_rfl) ?_
  intro ρ a hS hO hM
  clear hM
  refine regP T hS (sp := []) (ks := [0]) (bs := []) (sy' := ⟨[(0, V (.string (bs s_)))], []⟩) (by kernel_rfl) ?_
  intro a hS
  refine wcut (fun a w => ∃ (ρ : Nat → Nat) (χ : Nat → Nat), VC21_J1 s_ Q ∧ St Tryd.f21.ntmps ⟨[(0, V (.string (bs s_)))], []⟩ ρ a w χ ∧ Old w0 χ0 w χ) ?_ ?_
  · refine regP T hS (sp := []) (ks := [0, 3]) (bs := []) (sy' := ⟨[(0, V (.string (bs s_))), (3, I 0)], []⟩) (by kernel_rfl) ?_
    intro a hS
    refine wblock ?_
    obtain ⟨I1, μ1, hm0, hm⟩ := hm
    refine wloop (σ := Int) (fun s a w => ∃ (ρ : Nat → Nat) (χ : Nat → Nat), I1 s ∧ St Tryd.f21.ntmps ⟨[(0, V (.string (bs s_))), (3, I s)], []⟩ ρ a w χ ∧ Old w0 χ0 w χ) (fun s => μ1 s) (0) ?_ ?_
    · exact ⟨ρ, _, hm0, hS.sel [0, 3] [] (by kernel_rfl), hO⟩
    · rintro i_101 a w110 ⟨ρ, χ109, hI, hS, hO⟩
      replace hm := hm i_101 hI
      clear hI hm0
      refine wseq ?_
      refine regP T hS (sp := []) (ks := [0, 3, 7]) (bs := []) (sy' := ⟨[(0, V (.string (bs s_))), (3, I i_101), (7, B (decide (i_101 < ((s_.length : Nat) : Int))))], []⟩) (by kernel_rfl) ?_
      intro a hS
      refine wcond hS (b := decide (i_101 < ((s_.length : Nat) : Int))) (by kernel_rfl) (fun hb => ?_) (fun hb => ?_)
      · replace hm := hm.1 hb
        refine wskip ?_
        refine wseq ?_
        refine wblock ?_
        refine wcut (fun a w => ∃ (ρ : Nat → Nat) (χ : Nat → Nat) (x_102 : Bool), VC21_J2 Q I1 μ1 i_101 x_102 ∧ St Tryd.f21.ntmps ⟨[(0, V (.string (bs s_))), (3, I i_101), (19, B x_102)], []⟩ ρ a w χ ∧ Old w0 χ0 w χ) ?_ ?_
        · refine region ?_
          refine opsP T hS 2 (sp := []) (ks := [0, 3, 10, 11]) (bs := []) (sy' := ⟨[(0, V (.string (bs s_))), (3, I i_101), (10, V (.string (bs s_))), (11, I i_101)], []⟩) (by kernel_rfl) ?_
          intro a hS
          obtain ⟨hq, hm⟩ := hm
          refine op1 (sindex (k := .i64) T hS (by kernel_rfl) (by kernel_rfl) (by kernel_rfl) (by kernel_rfl) (by kernel_rfl) hq.1 hq.2 ?_)
          intro a hS
          clear hq
          refine op1 (call hS (by kernel_rfl) (by kernel_rfl) hb55 (by kernel_rfl) (fun _ _ => rfl) (k55 _ _ ((gi s_ i_101).toNat : Int)) ?_)
          intro v103 a w104 χ105 hE hp hS
          replace hO := hO.mv hE rfl rfl
          clear hE
          obtain ⟨r106, hr⟩ : ∃ r, ref05_gap ((gi s_ i_101).toNat : Int) = r := ⟨_, rfl⟩
          replace hm := hm r106 hr
          rw [hr] at hp
          clear hr
          subst hp
          refine opsP T hS 1 (sp := []) (ks := [0, 3, 14]) (bs := []) (sy' := ⟨[(0, V (.string (bs s_))), (3, I i_101), (14, B r106)], []⟩) (by kernel_rfl) ?_
          intro a hS
          rcases Bool.eq_false_or_eq_true r106 with hb | hb
          · replace hS := hS.lit (t := 14) (by kernel_rfl) hb
            replace hm := hm.1 hb
            refine endP T hS (sp := []) (ks := [0, 3, 19]) (bs := []) (sy' := ⟨[(0, V (.string (bs s_))), (3, I i_101), (19, B true)], []⟩) (by kernel_rfl) ?_
            intro a hS
            exact ⟨ρ, _, true, hm, hS.sel [0, 3, 19] [] (by kernel_rfl), hO⟩
          · replace hS := hS.lit (t := 14) (by kernel_rfl) hb
            replace hm := hm.2 hb
            refine opsP T hS 2 (sp := []) (ks := [0, 3, 14, 15, 16]) (bs := []) (sy' := ⟨[(0, V (.string (bs s_))), (3, I i_101), (14, B false), (15, V (.string (bs s_))), (16, I i_101)], []⟩) (by kernel_rfl) ?_
            intro a hS
            obtain ⟨hq, hm⟩ := hm
            refine op1 (sindex (k := .i64) T hS (by kernel_rfl) (by kernel_rfl) (by kernel_rfl) (by kernel_rfl) (by kernel_rfl) hq.1 hq.2 ?_)
            intro a hS
            clear hq
            refine endP T hS (sp := []) (ks := [0, 3, 15, 16, 17, 18, 19]) (bs := []) (sy' := ⟨[(0, V (.string (bs s_))), (3, I i_101), (15, V (.string (bs s_))), (16, I i_101), (17, V (.int .u8 ((gi s_ i_101).toNat : Int))), (18, B (((gi s_ i_101).toNat : Int) == 10)), (19, B (((gi s_ i_101).toNat : Int) == 10))], []⟩) (by kernel_rfl) ?_
            intro a hS
            exact ⟨ρ, _, (((gi s_ i_101).toNat : Int) == 10), hm, hS.sel [0, 3, 19] [] (by kernel_rfl), hO⟩
        · rintro a w108 ⟨ρ, χ107, x_102, hm, hS, hO⟩
          unfold VC21_J2 at hm
          refine wcond hS (b := x_102) (by kernel_rfl) (fun hb => ?_) (fun hb => ?_)
          · replace hm := hm.1 hb
            refine regP T hS (sp := []) (ks := [2]) (bs := []) (sy' := ⟨[(2, B false)], []⟩) (by kernel_rfl) ?_
            intro a hS
            refine wret ?_
            exact fin T hS hO (fun c => c) rfl (r := [.bool false]) (by kernel_rfl) (fun χ' hM hC => ⟨false, hm, rfl⟩)
          · replace hm := hm.2 hb
            refine wskip ?_
            refine region (endP T hS (sp := []) (ks := [0, 3]) (bs := []) (sy' := ⟨[(0, V (.string (bs s_))), (3, I (IntKind.i64.wrap (i_101 + 1)))], []⟩) (by kernel_rfl) ?_)
            intro a hS
            exact ⟨IntKind.i64.wrap (i_101 + 1), ⟨ρ, _, hm.1, hS.sel [0, 3] [] (by kernel_rfl), hO⟩, hm.2⟩
      · replace hm := hm.2 hb
        refine wexit (by rfl) ?_
        exact ⟨ρ, _, hm, hS.sel [0] [] (by kernel_rfl), hO⟩
  · rintro a w112 ⟨ρ, χ111, hm, hS, hO⟩
    unfold VC21_J1 at hm
    refine regP T hS (sp := []) (ks := [2]) (bs := []) (sy' := ⟨[(2, B (decide (((s_.length : Nat) : Int) > 0)))], []⟩) (by kernel_rfl) ?_
    intro a hS
    refine wret ?_
    exact fin T hS hO (fun c => c) rfl (r := [.bool (decide (((s_.length : Nat) : Int) > 0))]) (by kernel_rfl) (fun χ' hM hC => ⟨(decide (((s_.length : Nat) : Int) > 0)), hm, rfl⟩)
theorem C21 (k55 : S55) (v : ∀ (s_ : List UInt8), len1 s_ → VC21 s_ (fun r => r = ref05_Word s_)) : S21 := by
  intro w χ s_    hp 
  refine (W21 k55 w χ s_    _ (v s_ hp)).mono ?_
  rintro _ _ _ _ ⟨r, rfl, h⟩
  exact h
def S109 : Prop := ∀ (w : World) (χ : Nat → Nat) (s_ : List UInt8) (prefix_ : List UInt8), preTwo s_ prefix_ → Ret Tryd.prog 109 #[.string (bs s_), .string (bs prefix_)] xnone w χ (fun w χ' v => v = .bool (internal_stringslite_HasPrefix s_ prefix_))
theorem hb109 : hasBody Tryd.prog 109 = true := by kernel_rfl
/-- internal/stringslite.HasPrefix -/
theorem W109 (w0 : World) (χ0 : Nat → Nat) (s_ : List UInt8) (prefix_ : List UInt8) (Q : Bool → Prop) (hm : VC109 s_ prefix_ Q) :
    Ret Tryd.prog 109 #[.string (bs s_), .string (bs prefix_)] xnone w0 χ0 (fun w χ' v => ∃ r, Q r ∧ v = .bool r) := by
  unfold VC109 at hm
  refine enter Tryd.func109 rfl (vals := [.string (bs s_), .string (bs prefix_)]) (by kernel_rfl) ?_
  intro ρ a hS hO hM
  clear hM
  refine regP T hS (sp := []) (ks := [0, 1]) (bs := []) (sy' := ⟨[(0, V (.string (bs s_))), (1, V (.string (bs prefix_)))], []⟩) (by kernel_rfl) ?_
  intro a hS
  refine regO ?_
  refine opsP T hS 6 (sp := []) (ks := [0, 1, 10]) (bs := []) (sy' := ⟨[(0, V (.string (bs s_))), (1, V (.string (bs prefix_))), (10, B (decide (((s_.length : Nat) : Int) ≥ ((prefix_.length : Nat) : Int))))], []⟩) (by kernel_rfl) ?_
  intro a hS
  rcases Bool.eq_false_or_eq_true (decide (((s_.length : Nat) : Int) ≥ ((prefix_.length : Nat) : Int))) with hb | hb
  · replace hS := hS.lit (t := 10) (by kernel_rfl) hb
    replace hm := hm.1 hb
    refine opsP T hS 3 (sp := []) (ks := [1, 10, 11, 13]) (bs := []) (sy' := ⟨[(1, V (.string (bs prefix_))), (10, B true), (11, V (.string (bs s_))), (13, I ((prefix_.length : Nat) : Int))], []⟩) (by kernel_rfl) ?_
    intro a hS
    obtain ⟨hq, hm⟩ := hm
    refine op1 (sslice0 (kh := .i64) (s := s_) T hS (by kernel_rfl) (by kernel_rfl) (by kernel_rfl) (by kernel_rfl) (by kernel_rfl) hq.1 hq.2 ?_)
    intro a hS
    clear hq
    refine endP T hS (sp := []) (ks := [4]) (bs := []) (sy' := ⟨[(4, B ((s_.take ((prefix_.length : Nat) : Int).toNat) == prefix_))], []⟩) (by kernel_rfl) ?_
    intro a hS
    refine wret ?_
    exact fin T hS hO (fun c => c) rfl (r := [.bool ((s_.take ((prefix_.length : Nat) : Int).toNat) == prefix_)]) (by kernel_rfl) (fun χ' hM hC => ⟨((s_.take ((prefix_.length : Nat) : Int).toNat) == prefix_), hm, rfl⟩)
  · replace hS := hS.lit (t := 10) (by kernel_rfl) hb
    replace hm := hm.2 hb
    refine endP T hS (sp := []) (ks := [4]) (bs := []) (sy' := ⟨[(4, B false)], []⟩) (by kernel_rfl) ?_
    intro a hS
    refine wret ?_
    exact fin T hS hO (fun c => c) rfl (r := [.bool false]) (by kernel_rfl) (fun χ' hM hC => ⟨false, hm, rfl⟩)
theorem C109 (v : ∀ (s_ : List UInt8) (prefix_ : List UInt8), preTwo s_ prefix_ → VC109 s_ prefix_ (fun r => r = internal_stringslite_HasPrefix s_ prefix_)) : S109 := by
  intro w χ s_ prefix_    hp 
  refine (W109 w χ s_ prefix_    _ (v s_ prefix_ hp)).mono ?_
  rintro _ _ _ _ ⟨r, rfl, h⟩
  exact h
def S87 : Prop := ∀ (w : World) (χ : Nat → Nat) (s_ : List UInt8) (prefix_ : List UInt8), preTwo s_ prefix_ → Ret Tryd.prog 87 #[.string (bs s_), .string (bs prefix_)] xnone w χ (fun w χ' v => v = .bool (strings_HasPrefix s_ prefix_))
theorem hb87 : hasBody Tryd.prog 87 = true := by kernel_rfl
/-- strings.HasPrefix -/
theorem W87 (k109 : S109) (w0 : World) (χ0 : Nat → Nat) (s_ : List UInt8) (prefix_ : List UInt8) (Q : Bool → Prop) (hm : VC87 s_ prefix_ Q) :
    Ret Tryd.prog 87 #[.string (bs s_), .string (bs prefix_)] xnone w0 χ0 (fun w χ' v => ∃ r, Q r ∧ v = .bool r) := by
  unfold VC87 at hm
  refine enter Tryd.func87 rfl (vals := [.string (bs s_), .string (bs prefix_)]) (by kernel_rfl) ?_
  intro ρ a hS hO hM
  clear hM
  refine regP T hS (sp := []) (ks := [0, 1]) (bs := []) (sy' := ⟨[(0, V (.string (bs s_))), (1, V (.string (bs prefix_)))], []⟩) (by kernel_rfl) ?_
  intro a hS
  refine regO ?_
  refine opsP T hS 2 (sp := []) (ks := [5, 6]) (bs := []) (sy' := ⟨[(5, V (.string (bs s_))), (6, V (.string (bs prefix_)))], []⟩) (by kernel_rfl) ?_
  intro a hS
  obtain ⟨hq, hm⟩ := hm
  refine op1 (call hS (by kernel_rfl) (by kernel_rfl) hb109 (by kernel_rfl) (fun _ _ => rfl) (k109 _ _ s_ prefix_ hq) ?_)
  intro v101 a w102 χ103 hE hp hS
  clear hq
  replace hO := hO.mv hE rfl rfl
  clear hE
  obtain ⟨r104, hr⟩ : ∃ r, internal_stringslite_HasPrefix s_ prefix_ = r := ⟨_, rfl⟩
  replace hm := hm r104 hr
  rw [hr] at hp
  clear hr
  subst hp
  refine endP T hS (sp := []) (ks := [4]) (bs := []) (sy' := ⟨[(4, B r104)], []⟩) (by kernel_rfl) ?_
  intro a hS
  refine wret ?_
  exact fin T hS hO (fun c => c) rfl (r := [.bool r104]) (by kernel_rfl) (fun χ' hM hC => ⟨r104, hm, rfl⟩)
theorem C87 (k109 : S109) (v : ∀ (s_ : List UInt8) (prefix_ : List UInt8), preTwo s_ prefix_ → VC87 s_ prefix_ (fun r => r = strings_HasPrefix s_ prefix_)) : S87 := by
  intro w χ s_ prefix_    hp 
  refine (W87 k109 w χ s_ prefix_    _ (v s_ prefix_ hp)).mono ?_
  rintro _ _ _ _ ⟨r, rfl, h⟩
  exact h
def S112 : Prop := ∀ (w : World) (χ : Nat → Nat) (s_ : List UInt8) (prefix_ : List UInt8), preTwo s_ prefix_ → Ret Tryd.prog 112 #[.string (bs s_), .string (bs prefix_)] xnone w χ (fun w χ' v => v = .tuple #[.string (bs ((internal_stringslite_CutPrefix s_ prefix_).1)), .bool ((internal_stringslite_CutPrefix s_ prefix_).2)])
theorem hb112 : hasBody Tryd.prog 112 = true := by kernel_rfl
/-- internal/stringslite.CutPrefix -/
theorem W112 (k109 : S109) (w0 : World) (χ0 : Nat → Nat) (s_ : List UInt8) (prefix_ : List UInt8) (Q : (List UInt8) × Bool → Prop) (hm : VC112 s_ prefix_ Q) :
    Ret Tryd.prog 112 #[.string (bs s_), .string (bs prefix_)] xnone w0 χ0 (fun w χ' v => ∃ r, Q r ∧ v = .tuple #[.string (bs r.1), .bool r.2]) := by
  unfold VC112 at hm
  refine enter Tryd.func112 rfl (vals := [.string (bs s_), .string (bs prefix_)]) (by kernel_rfl) ?_
  intro ρ a hS hO hM
  clear hM
  refine regP T hS (sp := []) (ks := [0, 1]) (bs := []) (sy' := ⟨[(0, V (.string (bs s_))), (1, V (.string (bs prefix_)))], []⟩) (by kernel_rfl) ?_
  intro a hS
  refine wseq ?_
  refine regO ?_
  refine opsP T hS 2 (sp := []) (ks := [0, 1, 6, 7]) (bs := []) (sy' := ⟨[(0, V (.string (bs s_))), (1, V (.string (bs prefix_))), (6, V (.string (bs s_))), (7, V (.string (bs prefix_)))], []⟩) (by kernel_rfl) ?_
  intro a hS
  obtain ⟨hq, hm⟩ := hm
  refine op1 (call hS (by kernel_rfl) (by kernel_rfl) hb109 (by kernel_rfl) (fun _ _ => rfl) (k109 _ _ s_ prefix_ hq) ?_)
  intro v101 a w102 χ103 hE hp hS
  clear hq
  replace hO := hO.mv hE rfl rfl
  clear hE
  obtain ⟨r104, hr⟩ : ∃ r, internal_stringslite_HasPrefix s_ prefix_ = r := ⟨_, rfl⟩
  replace hm := hm r104 hr
  rw [hr] at hp
  clear hr
  subst hp
  refine endP T hS (sp := []) (ks := [0, 1, 9]) (bs := []) (sy' := ⟨[(0, V (.string (bs s_))), (1, V (.string (bs prefix_))), (9, B (!r104))], []⟩) (by kernel_rfl) ?_
  intro a hS
  refine wcond hS (b := (!r104)) (by kernel_rfl) (fun hb => ?_) (fun hb => ?_)
  · replace hm := hm.1 hb
    refine regP T hS (sp := []) (ks := [4, 5]) (bs := []) (sy' := ⟨[(4, V (.string (bs s_))), (5, B false)], []⟩) (by kernel_rfl) ?_
    intro a hS
    refine wret ?_
    exact fin T hS hO (fun c => c) rfl (r := [.string (bs s_), .bool false]) (by kernel_rfl) (fun χ' hM hC => ⟨(s_, false), hm, rfl⟩)
  · replace hm := hm.2 hb
    refine wskip ?_
    refine regO ?_
    refine opsP T hS 3 (sp := []) (ks := [11, 13]) (bs := []) (sy' := ⟨[(11, V (.string (bs s_))), (13, I ((prefix_.length : Nat) : Int))], []⟩) (by kernel_rfl) ?_
    intro a hS
    obtain ⟨hq, hm⟩ := hm
    refine op1 (sslice1 (kl := .i64) (s := s_) T hS (by kernel_rfl) (by kernel_rfl) (by kernel_rfl) (by kernel_rfl) (by kernel_rfl) hq.1 hq.2 ?_)
    intro a hS
    clear hq
    refine endP T hS (sp := []) (ks := [4, 5]) (bs := []) (sy' := ⟨[(4, V (.string (bs (s_.drop ((prefix_.length : Nat) : Int).toNat)))), (5, B true)], []⟩) (by kernel_rfl) ?_
    intro a hS
    refine wret ?_
    exact fin T hS hO (fun c => c) rfl (r := [.string (bs (s_.drop ((prefix_.length : Nat) : Int).toNat)), .bool true]) (by kernel_rfl) (fun χ' hM hC => ⟨((s_.drop ((prefix_.length : Nat) : Int).toNat), true), hm, rfl⟩)
theorem C112 (k109 : S109) (v : ∀ (s_ : List UInt8) (prefix_ : List UInt8), preTwo s_ prefix_ → VC112 s_ prefix_ (fun r => r = internal_stringslite_CutPrefix s_ prefix_)) : S112 := by
  intro w χ s_ prefix_    hp 
  refine (W112 k109 w χ s_ prefix_    _ (v s_ prefix_ hp)).mono ?_
  rintro _ _ _ _ ⟨r, rfl, h⟩
  exact h
def S90 : Prop := ∀ (w : World) (χ : Nat → Nat) (s_ : List UInt8) (prefix_ : List UInt8), preTwo s_ prefix_ → Ret Tryd.prog 90 #[.string (bs s_), .string (bs prefix_)] xnone w χ (fun w χ' v => v = .tuple #[.string (bs ((strings_CutPrefix s_ prefix_).1)), .bool ((strings_CutPrefix s_ prefix_).2)])
theorem hb90 : hasBody Tryd.prog 90 = true := by kernel_rfl
/-- strings.CutPrefix -/
theorem W90 (k112 : S112) (w0 : World) (χ0 : Nat → Nat) (s_ : List UInt8) (prefix_ : List UInt8) (Q : (List UInt8) × Bool → Prop) (hm : VC90 s_ prefix_ Q) :
    Ret Tryd.prog 90 #[.string (bs s_), .string (bs prefix_)] xnone w0 χ0 (fun w χ' v => ∃ r, Q r ∧ v = .tuple #[.string (bs r.1), .bool r.2]) := by
  unfold VC90 at hm
  refine enter Tryd.func90 rfl (vals := [.string (bs s_), .string (bs prefix_)]) (by kernel_rfl) ?_
  intro ρ a hS hO hM
  clear hM
  refine regP T hS (sp := []) (ks := [0, 1]) (bs := []) (sy' := ⟨[(0, V (.string (bs s_))), (1, V (.string (bs prefix_)))], []⟩) (by kernel_rfl) ?_
  intro a hS
  refine regO ?_
  refine opsP T hS 2 (sp := []) (ks := [6, 7]) (bs := []) (sy' := ⟨[(6, V (.string (bs s_))), (7, V (.string (bs prefix_)))], []⟩) (by kernel_rfl) ?_
  intro a hS
  obtain ⟨hq, hm⟩ := hm
  refine op1 (call hS (by kernel_rfl) (by kernel_rfl) hb112 (by kernel_rfl) (fun _ _ => rfl) (k112 _ _ s_ prefix_ hq) ?_)
  intro v101 a w102 χ103 hE hp hS
  clear hq
  replace hO := hO.mv hE rfl rfl
  clear hE
  obtain ⟨r104, hr⟩ : ∃ r, internal_stringslite_CutPrefix s_ prefix_ = r := ⟨_, rfl⟩
  replace hm := hm r104 hr
  rw [hr] at hp
  clear hr
  subst hp
  refine endP T hS (sp := []) (ks := [4, 5]) (bs := []) (sy' := ⟨[(4, V (.string (bs r104.1))), (5, B r104.2)], []⟩) (by kernel_rfl) ?_
  intro a hS
  refine wret ?_
  exact fin T hS hO (fun c => c) rfl (r := [.string (bs r104.1), .bool r104.2]) (by kernel_rfl) (fun χ' hM hC => ⟨(r104.1, r104.2), hm, rfl⟩)
theorem C90 (k112 : S112) (v : ∀ (s_ : List UInt8) (prefix_ : List UInt8), preTwo s_ prefix_ → VC90 s_ prefix_ (fun r => r = strings_CutPrefix s_ prefix_)) : S90 := by
  intro w χ s_ prefix_    hp 
  refine (W90 k112 w χ s_ prefix_    _ (v s_ prefix_ hp)).mono ?_
  rintro _ _ _ _ ⟨r, rfl, h⟩
  exact h
def S86 : Prop := ∀ (w : World) (χ : Nat → Nat) (s_ : List UInt8) (sep : List UInt8), preOne s_ sep → Ret Tryd.prog 86 #[.string (bs s_), .string (bs sep)] xnone w χ (fun w χ' v => v = .tuple #[.string (bs ((internal_stringslite_Cut s_ sep).1)), .string (bs ((internal_stringslite_Cut s_ sep).2.1)), .bool ((internal_stringslite_Cut s_ sep).2.2)])
theorem hb86 : hasBody Tryd.prog 86 = true := by kernel_rfl
/-- internal/stringslite.Cut -/
theorem W86 (k108 : S108) (w0 : World) (χ0 : Nat → Nat) (s_ : List UInt8) (sep : List UInt8) (Q : (List UInt8) × (List UInt8) × Bool → Prop) (hm : VC86 s_ sep Q) :
    Ret Tryd.prog 86 #[.string (bs s_), .string (bs sep)] xnone w0 χ0 (fun w χ' v => ∃ r, Q r ∧ v = .tuple #[.string (bs r.1), .string (bs r.2.1), .bool r.2.2]) := by
  unfold VC86 at hm
  refine enter Tryd.func86 rfl (vals := [.string (bs s_), .string (bs sep)]) (by kernel_rfl) ?_
  intro ρ a hS hO hM
  clear hM
  refine regP T hS (sp := []) (ks := [0, 1]) (bs := []) (sy' := ⟨[(0, V (.string (bs s_))), (1, V (.string (bs sep)))], []⟩) (by kernel_rfl) ?_
  intro a hS
  refine wseq ?_
  refine regO ?_
  refine opsP T hS 2 (sp := []) (ks := [0, 1, 8, 9]) (bs := []) (sy' := ⟨[(0, V (.string (bs s_))), (1, V (.string (bs sep))), (8, V (.string (bs s_))), (9, V (.string (bs sep)))], []⟩) (by kernel_rfl) ?_
  intro a hS
  obtain ⟨hq, hm⟩ := hm
  refine op1 (call hS (by kernel_rfl) (by kernel_rfl) hb108 (by kernel_rfl) (fun _ _ => rfl) (k108 _ _ s_ sep hq) ?_)
  intro v101 a w102 χ103 hE hp hS
  clear hq
  replace hO := hO.mv hE rfl rfl
  clear hE
  obtain ⟨r104, hr⟩ : ∃ r, internal_stringslite_Index s_ sep = r := ⟨_, rfl⟩
  replace hm := hm r104 hr
  rw [hr] at hp
  clear hr
  subst hp
  refine endP T hS (sp := []) (ks := [0, 1, 7]) (bs := []) (sy' := ⟨[(0, V (.string (bs s_))), (1, V (.string (bs sep))), (7, I r104)], []⟩) (by kernel_rfl) ?_
  intro a hS
  refine regP T hS (sp := []) (ks := [0, 1, 7, 12]) (bs := []) (sy' := ⟨[(0, V (.string (bs s_))), (1, V (.string (bs sep))), (7, I r104), (12, B (decide (r104 ≥ 0)))], []⟩) (by kernel_rfl) ?_
  intro a hS
  refine wcond hS (b := decide (r104 ≥ 0)) (by kernel_rfl) (fun hb => ?_) (fun hb => ?_)
  · replace hm := hm.1 hb
    refine drawnSX [] mixed hS ?_
    intro w105 χ106 hS hE hD hH
    replace hO := hO.mv hE rfl rfl
    clear hE
    refine take T [0, 1, 3, 4, 5, 6, 7] [] [13, 14, 16, 20] hS (by kernel_rfl) (by kernel_rfl) (by kernel_rfl) hH (listed' := #[true, true, false, true, true, true, true, true, false, false, false, false]) (fuel := 5) (sy' := ⟨[(13, V (.string (bs s_))), (14, I r104), (16, V (.string (bs s_))), (20, I (IntKind.i64.wrap (r104 + ((sep.length : Nat) : Int))))], []⟩) (by kernel_rfl) (by rfl) ?_
    intro a hS
    obtain ⟨hq, hm⟩ := hm
    refine dsslice0 (kh := .i64) (s := s_) T 2 hS (by kernel_rfl) (by kernel_rfl) (by kernel_rfl) (by rfl) (by kernel_rfl) hH (by kernel_rfl) (by kernel_rfl) (by kernel_rfl) hq.1 hq.2 ?_
    intro a hS
    clear hq
    refine take T [9] [] [4, 16, 20] hS (by kernel_rfl) (by kernel_rfl) (by kernel_rfl) hH (listed' := #[true, true, true, true, true, true, true, true, false, true, false, false]) (fuel := 3) (sy' := ⟨[(4, V (.string (bs (s_.take r104.toNat)))), (16, V (.string (bs s_))), (20, I (IntKind.i64.wrap (r104 + ((sep.length : Nat) : Int))))], []⟩) (by kernel_rfl) (by rfl) ?_
    intro a hS
    obtain ⟨hq, hm⟩ := hm
    refine dsslice1 (kl := .i64) (s := s_) T 8 hS (by kernel_rfl) (by kernel_rfl) (by kernel_rfl) (by rfl) (by kernel_rfl) hH (by kernel_rfl) (by kernel_rfl) (by kernel_rfl) hq.1 hq.2 ?_
    intro a hS
    clear hq
    refine take T [10, 11] [] [4, 5, 6] hS (by kernel_rfl) (by kernel_rfl) (by kernel_rfl) hH (listed' := #[true, true, true, true, true, true, true, true, true, true, true, true]) (fuel := 0) (sy' := ⟨[(4, V (.string (bs (s_.take r104.toNat)))), (5, V (.string (bs (s_.drop (IntKind.i64.wrap (r104 + ((sep.length : Nat) : Int))).toNat)))), (6, B true)], []⟩) (by kernel_rfl) (by rfl) ?_
    intro a hS
    refine drawnDone (by kernel_rfl) ?_
    clear hD hH
    replace hS := hS.sel [4, 5, 6] [] (sy' := ⟨[(4, V (.string (bs (s_.take r104.toNat)))), (5, V (.string (bs (s_.drop (IntKind.i64.wrap (r104 + ((sep.length : Nat) : Int))).toNat)))), (6, B true)], []⟩) (by kernel_rfl)
    refine wret ?_
    exact fin T hS hO (fun c => c) rfl (r := [.string (bs (s_.take r104.toNat)), .string (bs (s_.drop (IntKind.i64.wrap (r104 + ((sep.length : Nat) : Int))).toNat)), .bool true]) (by kernel_rfl) (fun χ' hM hC => ⟨((s_.take r104.toNat), (s_.drop (IntKind.i64.wrap (r104 + ((sep.length : Nat) : Int))).toNat), true), hm, rfl⟩)
  · replace hm := hm.2 hb
    refine wskip ?_
    refine regP T hS (sp := []) (ks := [4, 5, 6]) (bs := []) (sy' := ⟨[(4, V (.string (bs s_))), (5, V (.string (bs ([] : List UInt8)))), (6, B false)], []⟩) (by kernel_rfl) ?_
    intro a hS
    refine wret ?_
    exact fin T hS hO (fun c => c) rfl (r := [.string (bs s_), .string (bs ([] : List UInt8)), .bool false]) (by kernel_rfl) (fun χ' hM hC => ⟨(s_, ([] : List UInt8), false), hm, rfl⟩)
theorem C86 (k108 : S108) (v : ∀ (s_ : List UInt8) (sep : List UInt8), preOne s_ sep → VC86 s_ sep (fun r => r = internal_stringslite_Cut s_ sep)) : S86 := by
  intro w χ s_ sep    hp 
  refine (W86 k108 w χ s_ sep    _ (v s_ sep hp)).mono ?_
  rintro _ _ _ _ ⟨r, rfl, h⟩
  exact h
def S53 : Prop := ∀ (w : World) (χ : Nat → Nat) (s_ : List UInt8) (sep : List UInt8), preOne s_ sep → Ret Tryd.prog 53 #[.string (bs s_), .string (bs sep)] xnone w χ (fun w χ' v => v = .tuple #[.string (bs ((strings_Cut s_ sep).1)), .string (bs ((strings_Cut s_ sep).2.1)), .bool ((strings_Cut s_ sep).2.2)])
theorem hb53 : hasBody Tryd.prog 53 = true := by kernel_rfl
/-- strings.Cut -/
theorem W53 (k86 : S86) (w0 : World) (χ0 : Nat → Nat) (s_ : List UInt8) (sep : List UInt8) (Q : (List UInt8) × (List UInt8) × Bool → Prop) (hm : VC53 s_ sep Q) :
    Ret Tryd.prog 53 #[.string (bs s_), .string (bs sep)] xnone w0 χ0 (fun w χ' v => ∃ r, Q r ∧ v = .tuple #[.string (bs r.1), .string (bs r.2.1), .bool r.2.2]) := by
  unfold VC53 at hm
  refine enter Tryd.func53 rfl (vals := [.string (bs s_), .string (bs sep)]) (by kernel_rfl) ?_
  intro ρ a hS hO hM
  clear hM
  refine regP T hS (sp := []) (ks := [0, 1]) (bs := []) (sy' := ⟨[(0, V (.string (bs s_))), (1, V (.string (bs sep)))], []⟩) (by kernel_rfl) ?_
  intro a hS
  refine regO ?_
  refine opsP T hS 2 (sp := []) (ks := [7, 8]) (bs := []) (sy' := ⟨[(7, V (.string (bs s_))), (8, V (.string (bs sep)))], []⟩) (by kernel_rfl) ?_
  intro a hS
  obtain ⟨hq, hm⟩ := hm
  refine op1 (call hS (by kernel_rfl) (by kernel_rfl) hb86 (by kernel_rfl) (fun _ _ => rfl) (k86 _ _ s_ sep hq) ?_)
  intro v101 a w102 χ103 hE hp hS
  clear hq
  replace hO := hO.mv hE rfl rfl
  clear hE
  obtain ⟨r104, hr⟩ : ∃ r, internal_stringslite_Cut s_ sep = r := ⟨_, rfl⟩
  replace hm := hm r104 hr
  rw [hr] at hp
  clear hr
  subst hp
  refine endP T hS (sp := []) (ks := [4, 5, 6]) (bs := []) (sy' := ⟨[(4, V (.string (bs r104.1))), (5, V (.string (bs r104.2.1))), (6, B r104.2.2)], []⟩) (by kernel_rfl) ?_
  intro a hS
  refine wret ?_
  exact fin T hS hO (fun c => c) rfl (r := [.string (bs r104.1), .string (bs r104.2.1), .bool r104.2.2]) (by kernel_rfl) (fun χ' hM hC => ⟨(r104.1, r104.2.1, r104.2.2), hm, rfl⟩)
theorem C53 (k86 : S86) (v : ∀ (s_ : List UInt8) (sep : List UInt8), preOne s_ sep → VC53 s_ sep (fun r => r = strings_Cut s_ sep)) : S53 := by
  intro w χ s_ sep    hp 
  refine (W53 k86 w χ s_ sep    _ (v s_ sep hp)).mono ?_
  rintro _ _ _ _ ⟨r, rfl, h⟩
  exact h
def S54 : Prop := ∀ (w : World) (χ : Nat → Nat) (s_ : List UInt8) (line : Int) (at_ : Int), preTok s_ line at_ → Ret Tryd.prog 54 #[.string (bs s_), .int .i64 line, .int .i64 at_] xnone w χ (fun w χ' v => ∃ (ra1 : Option Addr) (rc1 : Nat), v = .slice ra1 (token_tokens s_ line at_).length rc1 ∧ RS tToken_Token w χ' ra1 (token_tokens s_ line at_) rc1)
theorem hb54 : hasBody Tryd.prog 54 = true := by kernel_rfl
/-- replevin/token.tokens -/
theorem W54 (k56 : S56) (k87 : S87) (w0 : World) (χ0 : Nat → Nat) (s_ : List UInt8) (line : Int) (at_ : Int) (Q : (List Token_Token) → Prop) (hm : VC54 s_ line at_ Q) :
    Ret Tryd.prog 54 #[.string (bs s_), .int .i64 line, .int .i64 at_] xnone w0 χ0 (fun w χ' v => ∃ r, Q r ∧ ∃ (ra1 : Option Addr) (rc1 : Nat), v = .slice ra1 r.length rc1 ∧ RS tToken_Token w χ' ra1 r rc1) := by
  unfold VC54 at hm
  refine enter Tryd.func54 rfl (vals := [.string (bs s_), .int .i64 line, .int .i64 at_]) (by kernel_rfl) ?_
  intro ρ a hS hO hM
  clear hM
  refine regP T hS (sp := []) (ks := [0, 1, 2]) (bs := []) (sy' := ⟨[(0, V (.string (bs s_))), (1, I line), (2, I at_)], []⟩) (by kernel_rfl) ?_
  intro a hS
  obtain ⟨I1_0, μ1_0, I1_1, μ1_1, hmf, hm0, hm1⟩ := hm
  refine wlabels2 (σ := (List Token_Token) × Int × Int) 0 1 (fun l s a w => ∃ (ρ : Nat → Nat) (χ : Nat → Nat) (a102 : Option Addr) (c103 : Nat), (bif Nat.beq l 1 then I1_1 s.1 s.2.1 s.2.2 else I1_0 s.1 s.2.1 s.2.2) ∧ St Tryd.f54.ntmps ⟨[(0, V (.string (bs s_))), (1, I line), (2, I at_), (7, V (.slice a102 s.1.length c103)), (8, I s.2.1), (9, I s.2.2)], []⟩ ρ a w χ ∧ Old w0 χ0 w χ ∧ OS tToken_Token 41 w χ 1007 a102 s.1 c103) (fun l s => (bif Nat.beq l 1 then μ1_1 s.1 s.2.1 s.2.2 else μ1_0 s.1 s.2.1 s.2.2)) (by rfl) (by rfl) (by rfl) ?_ (fun H1 => ?_) (fun H0 H1 => ?_)
  · rintro ⟨out_101, i_105, from_106⟩ a w141 ⟨ρ, χ140, a102, c103, hI, hS, hO, h104⟩
    replace hm := hm1 out_101 i_105 from_106 hI
    clear hI hmf hm0 hm1
    refine wrest rfl ?_
    refine regP T hS (sp := []) (ks := [0, 1, 2, 7, 8, 9]) (bs := []) (sy' := ⟨[(0, V (.string (bs s_))), (1, I line), (2, I at_), (7, V (.slice a102 out_101.length c103)), (8, I (IntKind.i64.wrap (i_105 + 1))), (9, I from_106)], []⟩) (by kernel_rfl) ?_
    intro a hS
    refine wseq ?_
    refine wcut (fun a w => ∃ (ρ : Nat → Nat) (χ : Nat → Nat) (out_113 : List Token_Token) (x_117 : Bool) (a114 : Option Addr) (c115 : Nat), VC54_J1 s_ line at_ I1_0 μ1_0 I1_1 μ1_1 out_101 i_105 from_106 out_113 x_117 ∧ St Tryd.f54.ntmps ⟨[(0, V (.string (bs s_))), (1, I line), (2, I at_), (7, V (.slice a114 out_113.length c115)), (8, I (IntKind.i64.wrap (i_105 + 1))), (9, I from_106), (41, B x_117)], []⟩ ρ a w χ ∧ Old w0 χ0 w χ ∧ OS tToken_Token 41 w χ 1007 a114 out_113 c115) ?_ ?_
    · refine region ?_
      refine opsP T hS 5 (sp := []) (ks := [0, 1, 2, 7, 8, 9, 35]) (bs := []) (sy' := ⟨[(0, V (.string (bs s_))), (1, I line), (2, I at_), (7, V (.slice a102 out_101.length c103)), (8, I (IntKind.i64.wrap (i_105 + 1))), (9, I from_106), (35, B (decide ((IntKind.i64.wrap (i_105 + 1)) < ((s_.length : Nat) : Int))))], []⟩) (by kernel_rfl) ?_
      intro a hS
      rcases Bool.eq_false_or_eq_true (decide ((IntKind.i64.wrap (i_105 + 1)) < ((s_.length : Nat) : Int))) with hb | hb
      · replace hS := hS.lit (t := 35) (by kernel_rfl) hb
        replace hm := hm.1 hb
        refine opsP T hS 2 (sp := []) (ks := [0, 1, 2, 7, 8, 9, 35, 36, 37]) (bs := []) (sy' := ⟨[(0, V (.string (bs s_))), (1, I line), (2, I at_), (7, V (.slice a102 out_101.length c103)), (8, I (IntKind.i64.wrap (i_105 + 1))), (9, I from_106), (35, B true), (36, V (.string (bs s_))), (37, I (IntKind.i64.wrap (i_105 + 1)))], []⟩) (by kernel_rfl) ?_
        intro a hS
        obtain ⟨hq, hm⟩ := hm
        refine op1 (sindex (k := .i64) T hS (by kernel_rfl) (by kernel_rfl) (by kernel_rfl) (by kernel_rfl) (by kernel_rfl) hq.1 hq.2 ?_)
        intro a hS
        clear hq
        refine op1 (call hS (by kernel_rfl) (by kernel_rfl) hb56 (by kernel_rfl) (fun _ _ => rfl) (k56 _ _ ([32, 9, 13] : List UInt8) ((gi s_ (IntKind.i64.wrap (i_105 + 1))).toNat : Int)) ?_)
        intro v127 a w128 χ129 hE hp hS
        replace hO := hO.mv hE rfl rfl
        replace h104 := h104.mv hE rfl rfl
        clear hE
        obtain ⟨r130, hr⟩ : ∃ r, strings_IndexByte ([32, 9, 13] : List UInt8) ((gi s_ (IntKind.i64.wrap (i_105 + 1))).toNat : Int) = r := ⟨_, rfl⟩
        replace hm := hm r130 hr
        rw [hr] at hp
        clear hr
        subst hp
        refine endP T hS (sp := []) (ks := [0, 1, 2, 7, 8, 9, 36, 37, 38, 39, 40, 41]) (bs := []) (sy' := ⟨[(0, V (.string (bs s_))), (1, I line), (2, I at_), (7, V (.slice a102 out_101.length c103)), (8, I (IntKind.i64.wrap (i_105 + 1))), (9, I from_106), (36, V (.string (bs s_))), (37, I (IntKind.i64.wrap (i_105 + 1))), (38, V (.int .u8 ((gi s_ (IntKind.i64.wrap (i_105 + 1))).toNat : Int))), (39, I r130), (40, B (decide (r130 < 0))), (41, B (decide (r130 < 0)))], []⟩) (by kernel_rfl) ?_
        intro a hS
        exact ⟨ρ, _, out_101, decide (r130 < 0), a102, c103, hm, hS.sel [0, 1, 2, 7, 8, 9, 41] [] (by kernel_rfl), hO, h104⟩
      · replace hS := hS.lit (t := 35) (by kernel_rfl) hb
        replace hm := hm.2 hb
        refine endP T hS (sp := []) (ks := [0, 1, 2, 7, 8, 9, 41]) (bs := []) (sy' := ⟨[(0, V (.string (bs s_))), (1, I line), (2, I at_), (7, V (.slice a102 out_101.length c103)), (8, I (IntKind.i64.wrap (i_105 + 1))), (9, I from_106), (41, B false)], []⟩) (by kernel_rfl) ?_
        intro a hS
        exact ⟨ρ, _, out_101, false, a102, c103, hm, hS.sel [0, 1, 2, 7, 8, 9, 41] [] (by kernel_rfl), hO, h104⟩
    · rintro a w132 ⟨ρ, χ131, out_113, x_117, a114, c115, hm, hS, hO, h116⟩
      unfold VC54_J1 at hm
      refine wcond hS (b := x_117) (by kernel_rfl) (fun hb => ?_) (fun hb => ?_)
      · replace hm := hm.1 hb
        refine wgoto (by rfl) ?_
        exact ⟨⟨out_113, IntKind.i64.wrap (i_105 + 1), from_106⟩, ⟨ρ, _, a114, c115, hm.1, hS.sel [0, 1, 2, 7, 8, 9] [] (by kernel_rfl), hO, h116⟩, hm.2⟩
      · replace hm := hm.2 hb
        refine wskip ?_
        refine regO ?_
        refine opsP T hS 8 (sp := []) (ks := [0, 1, 2, 7, 8, 9, 42, 43, 46, 47, 48, 49]) (bs := []) (sy' := ⟨[(0, V (.string (bs s_))), (1, I line), (2, I at_), (7, V (.slice a114 out_113.length c115)), (8, I (IntKind.i64.wrap (i_105 + 1))), (9, I from_106), (42, V (.slice a114 out_113.length c115)), (43, I line), (46, I (IntKind.i64.wrap (at_ + from_106))), (47, V (.string (bs s_))), (48, I from_106), (49, I (IntKind.i64.wrap (i_105 + 1)))], []⟩) (by kernel_rfl) ?_
        intro a hS
        obtain ⟨hq, hm⟩ := hm
        refine op1 (sslice2 (kl := .i64) (kh := .i64) (s := s_) T hS (by kernel_rfl) (by kernel_rfl) (by kernel_rfl) (by kernel_rfl) (by kernel_rfl) (by kernel_rfl) hq.1 hq.2.1 hq.2.2 ?_)
        intro a hS
        clear hq
        refine opsP T hS 1 (sp := []) (ks := [0, 1, 2, 7, 8, 9, 42, 51]) (bs := []) (sy' := ⟨[(0, V (.string (bs s_))), (1, I line), (2, I at_), (7, V (.slice a114 out_113.length c115)), (8, I (IntKind.i64.wrap (i_105 + 1))), (9, I from_106), (42, V (.slice a114 out_113.length c115)), (51, V (.agg #[.int .i64 line, .int .i64 (IntKind.i64.wrap (at_ + from_106)), .string (bs ((s_.take (IntKind.i64.wrap (i_105 + 1)).toNat).drop from_106.toNat))]))], []⟩) (by kernel_rfl) ?_
        intro a hS
        refine op1 (lit (E := 41) (col := 0) (T := tToken_Token) (vals := [.agg #[.int .i64 line, .int .i64 (IntKind.i64.wrap (at_ + from_106)), .string (bs ((s_.take (IntKind.i64.wrap (i_105 + 1)).toNat).drop from_106.toNat))]]) (ys := [(⟨line, IntKind.i64.wrap (at_ + from_106), ((s_.take (IntKind.i64.wrap (i_105 + 1)).toNat).drop from_106.toNat)⟩ : Token_Token)]) T hS (by kernel_rfl) (by kernel_rfl) (by kernel_rfl) (by kernel_rfl) (by exact ⟨rfl, trivial⟩) rfl (by kernel_rfl) (by kernel_rfl) (by kernel_rfl) (by kernel_rfl) ?_)
        intro b118 a w119 χ120 hE h121 hN hS
        clear hN
        replace hO := hO.mv hE rfl rfl
        replace h116 := h116.mv hE rfl rfl
        clear hE
        replace h121 := h121.rs0
        obtain ⟨hq, hm⟩ := hm
        obtain ⟨news, hN⟩ := h121.src
        refine op1 (append (E := 41) (T := tToken_Token) (col := 1007) (xs := out_113) T hS (by kernel_rfl) (by kernel_rfl) (by kernel_rfl) (by kernel_rfl) h116 hN (by kernel_rfl) (by kernel_rfl) (by kernel_rfl) (by kernel_rfl) hq ?_)
        intro a125 c126 a w122 χ123 hE h124 hS
        clear hq hN
        clear h116
        replace hO := hO.mv hE rfl rfl
        replace h121 := h121.mv hE rfl
        clear hE
        refine endP T hS (sp := []) (ks := [0, 1, 2, 7, 8, 9]) (bs := []) (sy' := ⟨[(0, V (.string (bs s_))), (1, I line), (2, I at_), (7, V (.slice a125 (out_113 ++ [(⟨line, IntKind.i64.wrap (at_ + from_106), ((s_.take (IntKind.i64.wrap (i_105 + 1)).toNat).drop from_106.toNat)⟩ : Token_Token)]).length c126)), (8, I (IntKind.i64.wrap (i_105 + 1))), (9, I from_106)], []⟩) (by kernel_rfl) ?_
        intro a hS
        refine wgoto (by rfl) ?_
        exact ⟨⟨out_113 ++ [(⟨line, IntKind.i64.wrap (at_ + from_106), ((s_.take (IntKind.i64.wrap (i_105 + 1)).toNat).drop from_106.toNat)⟩ : Token_Token)], IntKind.i64.wrap (i_105 + 1), from_106⟩, ⟨ρ, _, a125, c126, hm.1, hS.sel [0, 1, 2, 7, 8, 9] [] (by kernel_rfl), hO, h124⟩, hm.2⟩
  · rintro ⟨out_101, i_105, from_106⟩ a w143 ⟨ρ, χ142, a102, c103, hI, hS, hO, h104⟩
    replace hm := hm0 out_101 i_105 from_106 hI
    clear hI hmf hm0 hm1
    refine wrest rfl ?_
    refine wseq ?_
    refine regP T hS (sp := []) (ks := [0, 1, 2, 7, 8, 9, 19]) (bs := []) (sy' := ⟨[(0, V (.string (bs s_))), (1, I line), (2, I at_), (7, V (.slice a102 out_101.length c103)), (8, I i_105), (9, I from_106), (19, B (i_105 == ((s_.length : Nat) : Int)))], []⟩) (by kernel_rfl) ?_
    intro a hS
    refine wcond hS (b := (i_105 == ((s_.length : Nat) : Int))) (by kernel_rfl) (fun hb => ?_) (fun hb => ?_)
    · replace hm := hm.1 hb
      refine regP T hS (sp := []) (ks := [6]) (bs := []) (sy' := ⟨[(6, V (.slice a102 out_101.length c103))], []⟩) (by kernel_rfl) ?_
      intro a hS
      refine wret ?_
      obtain ⟨χ107, hE, hF⟩ := h104.freeze (by decide)
      replace hS := hS.ev hE (xone_box (by kernel_rfl))
      replace hO := hO.mv hE rfl rfl
      have h108 := hF; clear hE hF
      exact fin T hS hO (fun c => c) rfl (r := [.slice a102 out_101.length c103]) (by kernel_rfl) (fun χ' hM hC => ⟨out_101, hm, a102, c103, rfl, h108.m0 hM⟩)
    · replace hm := hm.2 hb
      refine wskip ?_
      refine wseq ?_
      refine regO ?_
      refine opsP T hS 2 (sp := []) (ks := [0, 1, 2, 7, 8, 9, 21, 22]) (bs := []) (sy' := ⟨[(0, V (.string (bs s_))), (1, I line), (2, I at_), (7, V (.slice a102 out_101.length c103)), (8, I i_105), (9, I from_106), (21, V (.string (bs s_))), (22, I i_105)], []⟩) (by kernel_rfl) ?_
      intro a hS
      obtain ⟨hq, hm⟩ := hm
      refine op1 (sindex (k := .i64) T hS (by kernel_rfl) (by kernel_rfl) (by kernel_rfl) (by kernel_rfl) (by kernel_rfl) hq.1 hq.2 ?_)
      intro a hS
      clear hq
      refine op1 (call hS (by kernel_rfl) (by kernel_rfl) hb56 (by kernel_rfl) (fun _ _ => rfl) (k56 _ _ ([32, 9, 13] : List UInt8) ((gi s_ i_105).toNat : Int)) ?_)
      intro v109 a w110 χ111 hE hp hS
      replace hO := hO.mv hE rfl rfl
      replace h104 := h104.mv hE rfl rfl
      clear hE
      obtain ⟨r112, hr⟩ : ∃ r, strings_IndexByte ([32, 9, 13] : List UInt8) ((gi s_ i_105).toNat : Int) = r := ⟨_, rfl⟩
      replace hm := hm r112 hr
      rw [hr] at hp
      clear hr
      subst hp
      refine endP T hS (sp := []) (ks := [0, 1, 2, 7, 8, 9, 25]) (bs := []) (sy' := ⟨[(0, V (.string (bs s_))), (1, I line), (2, I at_), (7, V (.slice a102 out_101.length c103)), (8, I i_105), (9, I from_106), (25, B (decide (r112 ≥ 0)))], []⟩) (by kernel_rfl) ?_
      intro a hS
      refine wcond hS (b := decide (r112 ≥ 0)) (by kernel_rfl) (fun hb => ?_) (fun hb => ?_)
      · replace hm := hm.1 hb
        refine regP T hS (sp := []) (ks := [0, 1, 2, 7, 8, 9]) (bs := []) (sy' := ⟨[(0, V (.string (bs s_))), (1, I line), (2, I at_), (7, V (.slice a102 out_101.length c103)), (8, I (IntKind.i64.wrap (i_105 + 1))), (9, I from_106)], []⟩) (by kernel_rfl) ?_
        intro a hS
        refine wgoto (by rfl) ?_
        exact ⟨⟨out_101, IntKind.i64.wrap (i_105 + 1), from_106⟩, ⟨ρ, _, a102, c103, hm.1, hS.sel [0, 1, 2, 7, 8, 9] [] (by kernel_rfl), hO, h104⟩, hm.2⟩
      · replace hm := hm.2 hb
        refine wskip ?_
        refine regP T hS (sp := []) (ks := [0, 1, 2, 7, 8, 9]) (bs := []) (sy' := ⟨[(0, V (.string (bs s_))), (1, I line), (2, I at_), (7, V (.slice a102 out_101.length c103)), (8, I i_105), (9, I i_105)], []⟩) (by kernel_rfl) ?_
        intro a hS
        refine wseq ?_
        refine wlabel ?_
        exact wfall H1 ⟨out_101, i_105, i_105⟩ ⟨ρ, _, a102, c103, hm.1, hS.sel [0, 1, 2, 7, 8, 9] [] (by kernel_rfl), hO, h104⟩ (fun _ hx => Nat.lt_of_lt_of_le hx hm.2)
  · replace hm := hmf
    clear hmf hm0 hm1
    refine regP T hS (sp := []) (ks := [0, 1, 2, 7]) (bs := []) (sy' := ⟨[(0, V (.string (bs s_))), (1, I line), (2, I at_), (7, V (.slice none 0 0))], []⟩) (by kernel_rfl) ?_
    intro a hS
    refine regP T hS (sp := []) (ks := [0, 1, 2, 7, 8, 9]) (bs := []) (sy' := ⟨[(0, V (.string (bs s_))), (1, I line), (2, I at_), (7, V (.slice none 0 0)), (8, I 0), (9, I 0)], []⟩) (by kernel_rfl) ?_
    intro a hS
    refine wseq ?_
    refine wcut (fun a w => ∃ (ρ : Nat → Nat) (χ : Nat → Nat) (x_133 : Bool), VC54_J2 Q I1_0 x_133 ∧ St Tryd.f54.ntmps ⟨[(0, V (.string (bs s_))), (1, I line), (2, I at_), (7, V (.slice none 0 0)), (8, I 0), (9, I 0), (15, B x_133)], []⟩ ρ a w χ ∧ Old w0 χ0 w χ) ?_ ?_
    · refine region ?_
      refine opsP T hS 3 (sp := []) (ks := [0, 1, 2, 7, 8, 9, 12]) (bs := []) (sy' := ⟨[(0, V (.string (bs s_))), (1, I line), (2, I at_), (7, V (.slice none 0 0)), (8, I 0), (9, I 0), (12, B (s_ == ([99] : List UInt8)))], []⟩) (by kernel_rfl) ?_
      intro a hS
      rcases Bool.eq_false_or_eq_true (s_ == ([99] : List UInt8)) with hb | hb
      · replace hS := hS.lit (t := 12) (by kernel_rfl) hb
        replace hm := hm.1 hb
        refine endP T hS (sp := []) (ks := [0, 1, 2, 7, 8, 9, 15]) (bs := []) (sy' := ⟨[(0, V (.string (bs s_))), (1, I line), (2, I at_), (7, V (.slice none 0 0)), (8, I 0), (9, I 0), (15, B true)], []⟩) (by kernel_rfl) ?_
        intro a hS
        exact ⟨ρ, _, true, hm, hS.sel [0, 1, 2, 7, 8, 9, 15] [] (by kernel_rfl), hO⟩
      · replace hS := hS.lit (t := 12) (by kernel_rfl) hb
        replace hm := hm.2 hb
        refine opsP T hS 1 (sp := []) (ks := [0, 1, 2, 7, 8, 9, 12, 13]) (bs := []) (sy' := ⟨[(0, V (.string (bs s_))), (1, I line), (2, I at_), (7, V (.slice none 0 0)), (8, I 0), (9, I 0), (12, B false), (13, V (.string (bs s_)))], []⟩) (by kernel_rfl) ?_
        intro a hS
        obtain ⟨hq, hm⟩ := hm
        refine op1 (call hS (by kernel_rfl) (by kernel_rfl) hb87 (by kernel_rfl) (fun _ _ => rfl) (k87 _ _ s_ ([99, 32] : List UInt8) hq) ?_)
        intro v134 a w135 χ136 hE hp hS
        clear hq
        replace hO := hO.mv hE rfl rfl
        clear hE
        obtain ⟨r137, hr⟩ : ∃ r, strings_HasPrefix s_ ([99, 32] : List UInt8) = r := ⟨_, rfl⟩
        replace hm := hm r137 hr
        rw [hr] at hp
        clear hr
        subst hp
        refine endP T hS (sp := []) (ks := [0, 1, 2, 7, 8, 9, 15]) (bs := []) (sy' := ⟨[(0, V (.string (bs s_))), (1, I line), (2, I at_), (7, V (.slice none 0 0)), (8, I 0), (9, I 0), (15, B r137)], []⟩) (by kernel_rfl) ?_
        intro a hS
        exact ⟨ρ, _, r137, hm, hS.sel [0, 1, 2, 7, 8, 9, 15] [] (by kernel_rfl), hO⟩
    · rintro a w139 ⟨ρ, χ138, x_133, hm, hS, hO⟩
      unfold VC54_J2 at hm
      refine wcond hS (b := x_133) (by kernel_rfl) (fun hb => ?_) (fun hb => ?_)
      · replace hm := hm.1 hb
        refine regP T hS (sp := []) (ks := [6]) (bs := []) (sy' := ⟨[(6, V (.slice none 0 0))], []⟩) (by kernel_rfl) ?_
        intro a hS
        refine wret ?_
        exact fin T hS hO (fun c => c) rfl (r := [.slice none 0 0]) (by kernel_rfl) (fun χ' hM hC => ⟨[], hm, none, 0, rfl, RS.empty _ _ _⟩)
      · replace hm := hm.2 hb
        refine wskip ?_
        refine wseq ?_
        refine wlabel ?_
        exact wfall H0 ⟨[], 0, 0⟩ ⟨ρ, _, none, 0, hm, hS.sel [0, 1, 2, 7, 8, 9] [] (by kernel_rfl), hO, (OS.nil _ _ _ _ _)⟩ (fun _ _ => trivial)
theorem C54 (k56 : S56) (k87 : S87) (v : ∀ (s_ : List UInt8) (line : Int) (at_ : Int), preTok s_ line at_ → VC54 s_ line at_ (fun r => r = token_tokens s_ line at_)) : S54 := by
  intro w χ s_ line at_    hp 
  refine (W54 k56 k87 w χ s_ line at_    _ (v s_ line at_ hp)).mono ?_
  rintro _ _ _ _ ⟨r, rfl, h⟩
  exact h
def S20 : Prop := ∀ (w : World) (χ : Nat → Nat) (s_ : List UInt8), len1 s_ → Ret Tryd.prog 20 #[.string (bs s_)] xnone w χ (fun w χ' v => v = .bool (token_Word s_))
theorem hb20 : hasBody Tryd.prog 20 = true := by kernel_rfl
/-- replevin/token.Word -/
theorem W20 (k56 : S56) (w0 : World) (χ0 : Nat → Nat) (s_ : List UInt8) (Q : Bool → Prop) (hm : VC20 s_ Q) :
    Ret Tryd.prog 20 #[.string (bs s_)] xnone w0 χ0 (fun w χ' v => ∃ r, Q r ∧ v = .bool r) := by
  unfold VC20 at hm
  refine enter Tryd.func20 rfl (vals := [.string (bs s_)]) (by kernel_rfl) ?_
  intro ρ a hS hO hM
  clear hM
  refine regP T hS (sp := []) (ks := [0]) (bs := []) (sy' := ⟨[(0, V (.string (bs s_)))], []⟩) (by kernel_rfl) ?_
  intro a hS
  refine wcut (fun a w => ∃ (ρ : Nat → Nat) (χ : Nat → Nat), VC20_J1 s_ Q ∧ St Tryd.f20.ntmps ⟨[(0, V (.string (bs s_)))], []⟩ ρ a w χ ∧ Old w0 χ0 w χ) ?_ ?_
  · refine regP T hS (sp := []) (ks := [0, 3]) (bs := []) (sy' := ⟨[(0, V (.string (bs s_))), (3, I 0)], []⟩) (by kernel_rfl) ?_
    intro a hS
    refine wblock ?_
    obtain ⟨I1, μ1, hm0, hm⟩ := hm
    refine wloop (σ := Int) (fun s a w => ∃ (ρ : Nat → Nat) (χ : Nat → Nat), I1 s ∧ St Tryd.f20.ntmps ⟨[(0, V (.string (bs s_))), (3, I s)], []⟩ ρ a w χ ∧ Old w0 χ0 w χ) (fun s => μ1 s) (0) ?_ ?_
    · exact ⟨ρ, _, hm0, hS.sel [0, 3] [] (by kernel_rfl), hO⟩
    · rintro i_101 a w110 ⟨ρ, χ109, hI, hS, hO⟩
      replace hm := hm i_101 hI
      clear hI hm0
      refine wseq ?_
      refine regP T hS (sp := []) (ks := [0, 3, 7]) (bs := []) (sy' := ⟨[(0, V (.string (bs s_))), (3, I i_101), (7, B (decide (i_101 < ((s_.length : Nat) : Int))))], []⟩) (by kernel_rfl) ?_
      intro a hS
      refine wcond hS (b := decide (i_101 < ((s_.length : Nat) : Int))) (by kernel_rfl) (fun hb => ?_) (fun hb => ?_)
      · replace hm := hm.1 hb
        refine wskip ?_
        refine wseq ?_
        refine wblock ?_
        refine wcut (fun a w => ∃ (ρ : Nat → Nat) (χ : Nat → Nat) (x_102 : Bool), VC20_J2 Q I1 μ1 i_101 x_102 ∧ St Tryd.f20.ntmps ⟨[(0, V (.string (bs s_))), (3, I i_101), (20, B x_102)], []⟩ ρ a w χ ∧ Old w0 χ0 w χ) ?_ ?_
        · refine region ?_
          refine opsP T hS 2 (sp := []) (ks := [0, 3, 10, 11]) (bs := []) (sy' := ⟨[(0, V (.string (bs s_))), (3, I i_101), (10, V (.string (bs s_))), (11, I i_101)], []⟩) (by kernel_rfl) ?_
          intro a hS
          obtain ⟨hq, hm⟩ := hm
          refine op1 (sindex (k := .i64) T hS (by kernel_rfl) (by kernel_rfl) (by kernel_rfl) (by kernel_rfl) (by kernel_rfl) hq.1 hq.2 ?_)
          intro a hS
          clear hq
          refine opsP T hS 2 (sp := []) (ks := [0, 3, 14]) (bs := []) (sy' := ⟨[(0, V (.string (bs s_))), (3, I i_101), (14, B (((gi s_ i_101).toNat : Int) == 10))], []⟩) (by kernel_rfl) ?_
          intro a hS
          rcases Bool.eq_false_or_eq_true (((gi s_ i_101).toNat : Int) == 10) with hb | hb
          · replace hS := hS.lit (t := 14) (by kernel_rfl) hb
            replace hm := hm.1 hb
            refine endP T hS (sp := []) (ks := [0, 3, 20]) (bs := []) (sy' := ⟨[(0, V (.string (bs s_))), (3, I i_101), (20, B true)], []⟩) (by kernel_rfl) ?_
            intro a hS
            exact ⟨ρ, _, true, hm, hS.sel [0, 3, 20] [] (by kernel_rfl), hO⟩
          · replace hS := hS.lit (t := 14) (by kernel_rfl) hb
            replace hm := hm.2 hb
            refine opsP T hS 2 (sp := []) (ks := [0, 3, 14, 15, 16]) (bs := []) (sy' := ⟨[(0, V (.string (bs s_))), (3, I i_101), (14, B false), (15, V (.string (bs s_))), (16, I i_101)], []⟩) (by kernel_rfl) ?_
            intro a hS
            obtain ⟨hq, hm⟩ := hm
            refine op1 (sindex (k := .i64) T hS (by kernel_rfl) (by kernel_rfl) (by kernel_rfl) (by kernel_rfl) (by kernel_rfl) hq.1 hq.2 ?_)
            intro a hS
            clear hq
            refine op1 (call hS (by kernel_rfl) (by kernel_rfl) hb56 (by kernel_rfl) (fun _ _ => rfl) (k56 _ _ ([32, 9, 13] : List UInt8) ((gi s_ i_101).toNat : Int)) ?_)
            intro v103 a w104 χ105 hE hp hS
            replace hO := hO.mv hE rfl rfl
            clear hE
            obtain ⟨r106, hr⟩ : ∃ r, strings_IndexByte ([32, 9, 13] : List UInt8) ((gi s_ i_101).toNat : Int) = r := ⟨_, rfl⟩
            replace hm := hm r106 hr
            rw [hr] at hp
            clear hr
            subst hp
            refine endP T hS (sp := []) (ks := [0, 3, 15, 16, 17, 18, 19, 20]) (bs := []) (sy' := ⟨[(0, V (.string (bs s_))), (3, I i_101), (15, V (.string (bs s_))), (16, I i_101), (17, V (.int .u8 ((gi s_ i_101).toNat : Int))), (18, I r106), (19, B (decide (r106 ≥ 0))), (20, B (decide (r106 ≥ 0)))], []⟩) (by kernel_rfl) ?_
            intro a hS
            exact ⟨ρ, _, decide (r106 ≥ 0), hm, hS.sel [0, 3, 20] [] (by kernel_rfl), hO⟩
        · rintro a w108 ⟨ρ, χ107, x_102, hm, hS, hO⟩
          unfold VC20_J2 at hm
          refine wcond hS (b := x_102) (by kernel_rfl) (fun hb => ?_) (fun hb => ?_)
          · replace hm := hm.1 hb
            refine regP T hS (sp := []) (ks := [2]) (bs := []) (sy' := ⟨[(2, B false)], []⟩) (by kernel_rfl) ?_
            intro a hS
            refine wret ?_
            exact fin T hS hO (fun c => c) rfl (r := [.bool false]) (by kernel_rfl) (fun χ' hM hC => ⟨false, hm, rfl⟩)
          · replace hm := hm.2 hb
            refine wskip ?_
            refine region (endP T hS (sp := []) (ks := [0, 3]) (bs := []) (sy' := ⟨[(0, V (.string (bs s_))), (3, I (IntKind.i64.wrap (i_101 + 1)))], []⟩) (by kernel_rfl) ?_)
            intro a hS
            exact ⟨IntKind.i64.wrap (i_101 + 1), ⟨ρ, _, hm.1, hS.sel [0, 3] [] (by kernel_rfl), hO⟩, hm.2⟩
      · replace hm := hm.2 hb
        refine wexit (by rfl) ?_
        exact ⟨ρ, _, hm, hS.sel [0] [] (by kernel_rfl), hO⟩
  · rintro a w112 ⟨ρ, χ111, hm, hS, hO⟩
    unfold VC20_J1 at hm
    refine regP T hS (sp := []) (ks := [2]) (bs := []) (sy' := ⟨[(2, B (!(s_ == ([] : List UInt8))))], []⟩) (by kernel_rfl) ?_
    intro a hS
    refine wret ?_
    exact fin T hS hO (fun c => c) rfl (r := [.bool (!(s_ == ([] : List UInt8)))]) (by kernel_rfl) (fun χ' hM hC => ⟨(!(s_ == ([] : List UInt8))), hm, rfl⟩)
theorem C20 (k56 : S56) (v : ∀ (s_ : List UInt8), len1 s_ → VC20 s_ (fun r => r = token_Word s_)) : S20 := by
  intro w χ s_    hp 
  refine (W20 k56 w χ s_    _ (v s_ hp)).mono ?_
  rintro _ _ _ _ ⟨r, rfl, h⟩
  exact h
def S60 : Prop := ∀ (w : World) (χ : Nat → Nat) (s_ : List UInt8), len1 s_ → Ret Tryd.prog 60 #[.string (bs s_)] xnone w χ (fun w χ' v => v = .tuple #[.string (bs ((token_numeral s_).1)), .bool ((token_numeral s_).2.1), .bool ((token_numeral s_).2.2)])
theorem hb60 : hasBody Tryd.prog 60 = true := by kernel_rfl
/-- replevin/token.numeral -/
theorem W60 (k90 : S90) (w0 : World) (χ0 : Nat → Nat) (s_ : List UInt8) (Q : (List UInt8) × Bool × Bool → Prop) (hm : VC60 s_ Q) :
    Ret Tryd.prog 60 #[.string (bs s_)] xnone w0 χ0 (fun w χ' v => ∃ r, Q r ∧ v = .tuple #[.string (bs r.1), .bool r.2.1, .bool r.2.2]) := by
  unfold VC60 at hm
  refine enter Tryd.func60 rfl (vals := [.string (bs s_)]) (by kernel_rfl) ?_
  intro ρ a hS hO hM
  clear hM
  refine regP T hS (sp := []) (ks := [0]) (bs := []) (sy' := ⟨[(0, V (.string (bs s_)))], []⟩) (by kernel_rfl) ?_
  intro a hS
  refine regO ?_
  refine opsP T hS 1 (sp := []) (ks := [9]) (bs := []) (sy' := ⟨[(9, V (.string (bs s_)))], []⟩) (by kernel_rfl) ?_
  intro a hS
  obtain ⟨hq, hm⟩ := hm
  refine op1 (call hS (by kernel_rfl) (by kernel_rfl) hb90 (by kernel_rfl) (fun _ _ => rfl) (k90 _ _ s_ ([45] : List UInt8) hq) ?_)
  intro v101 a w102 χ103 hE hp hS
  clear hq
  replace hO := hO.mv hE rfl rfl
  clear hE
  obtain ⟨r104, hr⟩ : ∃ r, strings_CutPrefix s_ ([45] : List UInt8) = r := ⟨_, rfl⟩
  replace hm := hm r104 hr
  rw [hr] at hp
  clear hr
  subst hp
  refine endP T hS (sp := []) (ks := [5, 6]) (bs := []) (sy' := ⟨[(5, V (.string (bs r104.1))), (6, B r104.2)], []⟩) (by kernel_rfl) ?_
  intro a hS
  refine wseq ?_
  refine wcut (fun a w => ∃ (ρ : Nat → Nat) (χ : Nat → Nat) (x_105 : Bool), VC60_J1 Q r104 x_105 ∧ St Tryd.f60.ntmps ⟨[(5, V (.string (bs r104.1))), (6, B r104.2), (27, B x_105)], []⟩ ρ a w χ ∧ Old w0 χ0 w χ) ?_ ?_
  · refine region ?_
    refine opsP T hS 3 (sp := []) (ks := [5, 6, 15]) (bs := []) (sy' := ⟨[(5, V (.string (bs r104.1))), (6, B r104.2), (15, B (r104.1 == ([] : List UInt8)))], []⟩) (by kernel_rfl) ?_
    intro a hS
    rcases Bool.eq_false_or_eq_true (r104.1 == ([] : List UInt8)) with hb | hb
    · replace hS := hS.lit (t := 15) (by kernel_rfl) hb
      replace hm := hm.1 hb
      refine endP T hS (sp := []) (ks := [5, 6, 27]) (bs := []) (sy' := ⟨[(5, V (.string (bs r104.1))), (6, B r104.2), (27, B true)], []⟩) (by kernel_rfl) ?_
      intro a hS
      exact ⟨ρ, _, true, hm, hS.sel [5, 6, 27] [] (by kernel_rfl), hO⟩
    · replace hS := hS.lit (t := 15) (by kernel_rfl) hb
      replace hm := hm.2 hb
      refine opsP T hS 1 (sp := []) (ks := [5, 6, 15, 16]) (bs := []) (sy' := ⟨[(5, V (.string (bs r104.1))), (6, B r104.2), (15, B false), (16, V (.string (bs r104.1)))], []⟩) (by kernel_rfl) ?_
      intro a hS
      obtain ⟨hq, hm⟩ := hm
      refine op1 (sindex (k := .i64) T hS (by kernel_rfl) (by kernel_rfl) (by kernel_rfl) (by kernel_rfl) (by kernel_rfl) hq.1 hq.2 ?_)
      intro a hS
      clear hq
      refine endP T hS (sp := [19, 23]) (ks := [5, 6, 27]) (bs := []) (sy' := ⟨[(5, V (.string (bs r104.1))), (6, B r104.2), (27, B ((((gi r104.1 0).toNat : Int) == 48) && ((decide (((r104.1.length : Nat) : Int) > 1)) || r104.2)))], []⟩) (by kernel_rfl) ?_
      intro a hS
      exact ⟨ρ, _, ((((gi r104.1 0).toNat : Int) == 48) && ((decide (((r104.1.length : Nat) : Int) > 1)) || r104.2)), hm, hS.sel [5, 6, 27] [] (by kernel_rfl), hO⟩
  · rintro a w115 ⟨ρ, χ114, x_105, hm, hS, hO⟩
    unfold VC60_J1 at hm
    refine wcond hS (b := x_105) (by kernel_rfl) (fun hb => ?_) (fun hb => ?_)
    · replace hm := hm.1 hb
      refine regP T hS (sp := []) (ks := [2, 3, 4]) (bs := []) (sy' := ⟨[(2, V (.string (bs ([] : List UInt8)))), (3, B false), (4, B false)], []⟩) (by kernel_rfl) ?_
      intro a hS
      refine wret ?_
      exact fin T hS hO (fun c => c) rfl (r := [.string (bs ([] : List UInt8)), .bool false, .bool false]) (by kernel_rfl) (fun χ' hM hC => ⟨(([] : List UInt8), false, false), hm, rfl⟩)
    · replace hm := hm.2 hb
      refine wskip ?_
      refine wcut (fun a w => ∃ (ρ : Nat → Nat) (χ : Nat → Nat), VC60_J2 Q r104 ∧ St Tryd.f60.ntmps ⟨[(5, V (.string (bs r104.1))), (6, B r104.2)], []⟩ ρ a w χ ∧ Old w0 χ0 w χ) ?_ ?_
      · refine regP T hS (sp := []) (ks := [5, 6, 7]) (bs := []) (sy' := ⟨[(5, V (.string (bs r104.1))), (6, B r104.2), (7, I 0)], []⟩) (by kernel_rfl) ?_
        intro a hS
        refine wblock ?_
        obtain ⟨I1, μ1, hm0, hm⟩ := hm
        refine wloop (σ := Int) (fun s a w => ∃ (ρ : Nat → Nat) (χ : Nat → Nat), I1 s ∧ St Tryd.f60.ntmps ⟨[(5, V (.string (bs r104.1))), (6, B r104.2), (7, I s)], []⟩ ρ a w χ ∧ Old w0 χ0 w χ) (fun s => μ1 s) (0) ?_ ?_
        · exact ⟨ρ, _, hm0, hS.sel [5, 6, 7] [] (by kernel_rfl), hO⟩
        · rintro i_106 a w111 ⟨ρ, χ110, hI, hS, hO⟩
          replace hm := hm i_106 hI
          clear hI hm0
          refine wseq ?_
          refine regP T hS (sp := []) (ks := [5, 6, 7, 31]) (bs := []) (sy' := ⟨[(5, V (.string (bs r104.1))), (6, B r104.2), (7, I i_106), (31, B (decide (i_106 < ((r104.1.length : Nat) : Int))))], []⟩) (by kernel_rfl) ?_
          intro a hS
          refine wcond hS (b := decide (i_106 < ((r104.1.length : Nat) : Int))) (by kernel_rfl) (fun hb => ?_) (fun hb => ?_)
          · replace hm := hm.1 hb
            refine wskip ?_
            refine wseq ?_
            refine wblock ?_
            refine wcut (fun a w => ∃ (ρ : Nat → Nat) (χ : Nat → Nat) (x_107 : Bool), VC60_J3 Q I1 μ1 i_106 x_107 ∧ St Tryd.f60.ntmps ⟨[(5, V (.string (bs r104.1))), (6, B r104.2), (7, I i_106), (43, B x_107)], []⟩ ρ a w χ ∧ Old w0 χ0 w χ) ?_ ?_
            · refine region ?_
              refine opsP T hS 2 (sp := []) (ks := [5, 6, 7, 34, 35]) (bs := []) (sy' := ⟨[(5, V (.string (bs r104.1))), (6, B r104.2), (7, I i_106), (34, V (.string (bs r104.1))), (35, I i_106)], []⟩) (by kernel_rfl) ?_
              intro a hS
              obtain ⟨hq, hm⟩ := hm
              refine op1 (sindex (k := .i64) T hS (by kernel_rfl) (by kernel_rfl) (by kernel_rfl) (by kernel_rfl) (by kernel_rfl) hq.1 hq.2 ?_)
              intro a hS
              clear hq
              refine opsP T hS 2 (sp := []) (ks := [5, 6, 7, 38]) (bs := []) (sy' := ⟨[(5, V (.string (bs r104.1))), (6, B r104.2), (7, I i_106), (38, B (decide (((gi r104.1 i_106).toNat : Int) < 48)))], []⟩) (by kernel_rfl) ?_
              intro a hS
              rcases Bool.eq_false_or_eq_true (decide (((gi r104.1 i_106).toNat : Int) < 48)) with hb | hb
              · replace hS := hS.lit (t := 38) (by kernel_rfl) hb
                replace hm := hm.1 hb
                refine endP T hS (sp := []) (ks := [5, 6, 7, 43]) (bs := []) (sy' := ⟨[(5, V (.string (bs r104.1))), (6, B r104.2), (7, I i_106), (43, B true)], []⟩) (by kernel_rfl) ?_
                intro a hS
                exact ⟨ρ, _, true, hm, hS.sel [5, 6, 7, 43] [] (by kernel_rfl), hO⟩
              · replace hS := hS.lit (t := 38) (by kernel_rfl) hb
                replace hm := hm.2 hb
                refine opsP T hS 2 (sp := []) (ks := [5, 6, 7, 38, 39, 40]) (bs := []) (sy' := ⟨[(5, V (.string (bs r104.1))), (6, B r104.2), (7, I i_106), (38, B false), (39, V (.string (bs r104.1))), (40, I i_106)], []⟩) (by kernel_rfl) ?_
                intro a hS
                obtain ⟨hq, hm⟩ := hm
                refine op1 (sindex (k := .i64) T hS (by kernel_rfl) (by kernel_rfl) (by kernel_rfl) (by kernel_rfl) (by kernel_rfl) hq.1 hq.2 ?_)
                intro a hS
                clear hq
                refine endP T hS (sp := []) (ks := [5, 6, 7, 39, 40, 41, 42, 43]) (bs := []) (sy' := ⟨[(5, V (.string (bs r104.1))), (6, B r104.2), (7, I i_106), (39, V (.string (bs r104.1))), (40, I i_106), (41, V (.int .u8 ((gi r104.1 i_106).toNat : Int))), (42, B (decide (((gi r104.1 i_106).toNat : Int) > 57))), (43, B (decide (((gi r104.1 i_106).toNat : Int) > 57)))], []⟩) (by kernel_rfl) ?_
                intro a hS
                exact ⟨ρ, _, decide (((gi r104.1 i_106).toNat : Int) > 57), hm, hS.sel [5, 6, 7, 43] [] (by kernel_rfl), hO⟩
            · rintro a w109 ⟨ρ, χ108, x_107, hm, hS, hO⟩
              unfold VC60_J3 at hm
              refine wcond hS (b := x_107) (by kernel_rfl) (fun hb => ?_) (fun hb => ?_)
              · replace hm := hm.1 hb
                refine regP T hS (sp := []) (ks := [2, 3, 4]) (bs := []) (sy' := ⟨[(2, V (.string (bs ([] : List UInt8)))), (3, B false), (4, B false)], []⟩) (by kernel_rfl) ?_
                intro a hS
                refine wret ?_
                exact fin T hS hO (fun c => c) rfl (r := [.string (bs ([] : List UInt8)), .bool false, .bool false]) (by kernel_rfl) (fun χ' hM hC => ⟨(([] : List UInt8), false, false), hm, rfl⟩)
              · replace hm := hm.2 hb
                refine wskip ?_
                refine region (endP T hS (sp := []) (ks := [5, 6, 7]) (bs := []) (sy' := ⟨[(5, V (.string (bs r104.1))), (6, B r104.2), (7, I (IntKind.i64.wrap (i_106 + 1)))], []⟩) (by kernel_rfl) ?_)
                intro a hS
                exact ⟨IntKind.i64.wrap (i_106 + 1), ⟨ρ, _, hm.1, hS.sel [5, 6, 7] [] (by kernel_rfl), hO⟩, hm.2⟩
          · replace hm := hm.2 hb
            refine wexit (by rfl) ?_
            exact ⟨ρ, _, hm, hS.sel [5, 6] [] (by kernel_rfl), hO⟩
      · rintro a w113 ⟨ρ, χ112, hm, hS, hO⟩
        unfold VC60_J2 at hm
        refine regP T hS (sp := []) (ks := [2, 3, 4]) (bs := []) (sy' := ⟨[(2, V (.string (bs r104.1))), (3, B r104.2), (4, B true)], []⟩) (by kernel_rfl) ?_
        intro a hS
        refine wret ?_
        exact fin T hS hO (fun c => c) rfl (r := [.string (bs r104.1), .bool r104.2, .bool true]) (by kernel_rfl) (fun χ' hM hC => ⟨(r104.1, r104.2, true), hm, rfl⟩)
theorem C60 (k90 : S90) (v : ∀ (s_ : List UInt8), len1 s_ → VC60 s_ (fun r => r = token_numeral s_)) : S60 := by
  intro w χ s_    hp 
  refine (W60 k90 w χ s_    _ (v s_ hp)).mono ?_
  rintro _ _ _ _ ⟨r, rfl, h⟩
  exact h
def S27 : Prop := ∀ (w : World) (χ : Nat → Nat) (n_ : Int), preI n_ → Ret Tryd.prog 27 #[.int .i64 n_] xnone w χ (fun w χ' v => v = .string (bs (ref05_Digits n_)))
theorem hb27 : hasBody Tryd.prog 27 = true := by kernel_rfl
/-- replevin/replevinref05.Digits -/
theorem W27 (w0 : World) (χ0 : Nat → Nat) (n_ : Int) (Q : (List UInt8) → Prop) (hm : VC27 n_ Q) :
    Ret Tryd.prog 27 #[.int .i64 n_] xnone w0 χ0 (fun w χ' v => ∃ r, Q r ∧ v = .string (bs r)) := by
  unfold VC27 at hm
  refine enter Tryd.func27 rfl (vals := [.int .i64 n_]) (by kernel_rfl) ?_
  intro ρ a hS hO hM
  clear hM
  refine regP T hS (sp := []) (ks := [0]) (bs := []) (sy' := ⟨[(0, I n_)], []⟩) (by kernel_rfl) ?_
  intro a hS
  refine wseq ?_
  refine regP T hS (sp := []) (ks := [0, 7]) (bs := []) (sy' := ⟨[(0, I n_), (7, B (n_ == 0))], []⟩) (by kernel_rfl) ?_
  intro a hS
  refine wcond hS (b := (n_ == 0)) (by kernel_rfl) (fun hb => ?_) (fun hb => ?_)
  · replace hm := hm.1 hb
    refine regP T hS (sp := []) (ks := [2]) (bs := []) (sy' := ⟨[(2, V (.string (bs ([48] : List UInt8))))], []⟩) (by kernel_rfl) ?_
    intro a hS
    refine wret ?_
    exact fin T hS hO (fun c => c) rfl (r := [.string (bs ([48] : List UInt8))]) (by kernel_rfl) (fun χ' hM hC => ⟨([48] : List UInt8), hm, rfl⟩)
  · replace hm := hm.2 hb
    refine wskip ?_
    refine regP T hS (sp := []) (ks := [0, 3]) (bs := []) (sy' := ⟨[(0, I n_), (3, V (.string (bs ([] : List UInt8))))], []⟩) (by kernel_rfl) ?_
    intro a hS
    refine wcut (fun a w => ∃ (ρ : Nat → Nat) (χ : Nat → Nat) (out_101 : List UInt8), VC27_J1 n_ Q out_101 ∧ St Tryd.f27.ntmps ⟨[(0, I n_), (3, V (.string (bs out_101)))], []⟩ ρ a w χ ∧ Old w0 χ0 w χ) ?_ ?_
    · refine regP T hS (sp := []) (ks := [0, 3, 4]) (bs := []) (sy' := ⟨[(0, I n_), (3, V (.string (bs ([] : List UInt8)))), (4, I n_)], []⟩) (by kernel_rfl) ?_
      intro a hS
      refine wblock ?_
      obtain ⟨I1, μ1, hm0, hm⟩ := hm
      refine wloop (σ := (List UInt8) × Int) (fun s a w => ∃ (ρ : Nat → Nat) (χ : Nat → Nat), I1 s.1 s.2 ∧ St Tryd.f27.ntmps ⟨[(0, I n_), (3, V (.string (bs s.1))), (4, I s.2)], []⟩ ρ a w χ ∧ Old w0 χ0 w χ) (fun s => μ1 s.1 s.2) (⟨([] : List UInt8), n_⟩) ?_ ?_
      · exact ⟨ρ, _, hm0, hS.sel [0, 3, 4] [] (by kernel_rfl), hO⟩
      · rintro ⟨out_102, x_103⟩ a w112 ⟨ρ, χ111, hI, hS, hO⟩
        replace hm := hm out_102 x_103 hI
        clear hI hm0
        refine wseq ?_
        refine regP T hS (sp := []) (ks := [0, 3, 4, 10]) (bs := []) (sy' := ⟨[(0, I n_), (3, V (.string (bs out_102))), (4, I x_103), (10, B (x_103 != 0))], []⟩) (by kernel_rfl) ?_
        intro a hS
        refine wcond hS (b := (x_103 != 0)) (by kernel_rfl) (fun hb => ?_) (fun hb => ?_)
        · replace hm := hm.1 hb
          refine wskip ?_
          refine wseq ?_
          refine wblock ?_
          refine regO ?_
          refine opsP T hS 1 (sp := []) (ks := [0, 3, 4, 13]) (bs := []) (sy' := ⟨[(0, I n_), (3, V (.string (bs out_102))), (4, I x_103), (13, I x_103)], []⟩) (by kernel_rfl) ?_
          intro a hS
          refine op1 (rem (k := .i64) (p := x_103) (q := 10) hS (by kernel_rfl) (by kernel_rfl) (by kernel_rfl) (by kernel_rfl) (by decide) ?_)
          intro a hS
          refine endP T hS (sp := []) (ks := [0, 3, 4, 5]) (bs := []) (sy' := ⟨[(0, I n_), (3, V (.string (bs out_102))), (4, I x_103), (5, I ((x_103).tmod 10))], []⟩) (by kernel_rfl) ?_
          intro a hS
          refine wcut (fun a w => ∃ (ρ : Nat → Nat) (χ : Nat → Nat) (d_104 : Int), VC27_J2 I1 μ1 out_102 x_103 d_104 ∧ St Tryd.f27.ntmps ⟨[(0, I n_), (3, V (.string (bs out_102))), (4, I x_103), (5, I d_104)], []⟩ ρ a w χ ∧ Old w0 χ0 w χ) ?_ ?_
          · refine regP T hS (sp := []) (ks := [0, 3, 4, 5, 16]) (bs := []) (sy' := ⟨[(0, I n_), (3, V (.string (bs out_102))), (4, I x_103), (5, I ((x_103).tmod 10)), (16, B (decide (((x_103).tmod 10) < 0)))], []⟩) (by kernel_rfl) ?_
            intro a hS
            refine wcond hS (b := decide (((x_103).tmod 10) < 0)) (by kernel_rfl) (fun hb => ?_) (fun hb => ?_)
            · replace hm := hm.1 hb
              refine region (endP T hS (sp := []) (ks := [0, 3, 4, 5]) (bs := []) (sy' := ⟨[(0, I n_), (3, V (.string (bs out_102))), (4, I x_103), (5, I (IntKind.i64.wrap (0 - ((x_103).tmod 10))))], []⟩) (by kernel_rfl) ?_)
              intro a hS
              exact ⟨ρ, _, IntKind.i64.wrap (0 - ((x_103).tmod 10)), hm, hS.sel [0, 3, 4, 5] [] (by kernel_rfl), hO⟩
            · replace hm := hm.2 hb
              refine wskip ?_
              exact ⟨ρ, _, ((x_103).tmod 10), hm, hS.sel [0, 3, 4, 5] [] (by kernel_rfl), hO⟩
          · rintro a w110 ⟨ρ, χ109, d_104, hm, hS, hO⟩
            unfold VC27_J2 at hm
            refine region ?_
            refine opsP T hS 3 (sp := []) (ks := [0, 3, 4, 21]) (bs := []) (sy' := ⟨[(0, I n_), (3, V (.string (bs out_102))), (4, I x_103), (21, V (.int .u8 (IntKind.u8.wrap (IntKind.i64.wrap (48 + d_104)))))], []⟩) (by kernel_rfl) ?_
            intro a hS
            refine op1 (lit (E := 5) (col := 0) (T := (tInt .u8 1)) (vals := [.int .u8 (IntKind.u8.wrap (IntKind.i64.wrap (48 + d_104)))]) (ys := [IntKind.u8.wrap (IntKind.i64.wrap (48 + d_104))]) T hS (by kernel_rfl) (by kernel_rfl) (by kernel_rfl) (by kernel_rfl) (by exact ⟨rfl, trivial⟩) rfl (by kernel_rfl) (by kernel_rfl) (by kernel_rfl) (by kernel_rfl) ?_)
            intro b105 a w106 χ107 hE h108 hN hS
            clear hN
            replace hO := hO.mv hE rfl rfl
            clear hE
            replace h108 := h108.rs0
            obtain ⟨news, hN⟩ := h108.src
            refine op1 (cvtS (b := 1) (ys := [IntKind.u8.wrap (IntKind.i64.wrap (48 + d_104))]) T hS (by kernel_rfl) (by kernel_rfl) (by kernel_rfl) (by kernel_rfl) (by kernel_rfl) hN ?_)
            intro a hS
            clear hN
            refine opsP T hS 1 (sp := []) (ks := [0, 3, 4, 23, 24]) (bs := []) (sy' := ⟨[(0, I n_), (3, V (.string (bs out_102))), (4, I x_103), (23, V (.string (bs (ofBytes [IntKind.u8.wrap (IntKind.i64.wrap (48 + d_104))])))), (24, V (.string (bs out_102)))], []⟩) (by kernel_rfl) ?_
            intro a hS
            obtain ⟨hq, hm⟩ := hm
            refine op1 (sadd (p := (ofBytes [IntKind.u8.wrap (IntKind.i64.wrap (48 + d_104))])) (q := out_102) hS (by kernel_rfl) (by kernel_rfl) (by kernel_rfl) (by kernel_rfl) hq ?_)
            intro a hS
            clear hq
            refine endP T hS (sp := []) (ks := [0, 3, 4]) (bs := []) (sy' := ⟨[(0, I n_), (3, V (.string (bs ((ofBytes [IntKind.u8.wrap (IntKind.i64.wrap (48 + d_104))]) ++ out_102)))), (4, I x_103)], []⟩) (by kernel_rfl) ?_
            intro a hS
            refine region ?_
            refine opsP T hS 1 (sp := []) (ks := [0, 3, 4, 11]) (bs := []) (sy' := ⟨[(0, I n_), (3, V (.string (bs ((ofBytes [IntKind.u8.wrap (IntKind.i64.wrap (48 + d_104))]) ++ out_102)))), (4, I x_103), (11, I x_103)], []⟩) (by kernel_rfl) ?_
            intro a hS
            refine op1 (quo (k := .i64) (p := x_103) (q := 10) hS (by kernel_rfl) (by kernel_rfl) (by kernel_rfl) (by kernel_rfl) (by decide) ?_)
            intro a hS
            refine endP T hS (sp := []) (ks := [0, 3, 4]) (bs := []) (sy' := ⟨[(0, I n_), (3, V (.string (bs ((ofBytes [IntKind.u8.wrap (IntKind.i64.wrap (48 + d_104))]) ++ out_102)))), (4, I (IntKind.i64.wrap ((x_103).tdiv 10)))], []⟩) (by kernel_rfl) ?_
            intro a hS
            exact ⟨⟨((ofBytes [IntKind.u8.wrap (IntKind.i64.wrap (48 + d_104))]) ++ out_102), IntKind.i64.wrap ((x_103).tdiv 10)⟩, ⟨ρ, _, hm.1, hS.sel [0, 3, 4] [] (by kernel_rfl), hO⟩, hm.2⟩
        · replace hm := hm.2 hb
          refine wexit (by rfl) ?_
          exact ⟨ρ, _, out_102, hm, hS.sel [0, 3] [] (by kernel_rfl), hO⟩
    · rintro a w114 ⟨ρ, χ113, out_101, hm, hS, hO⟩
      unfold VC27_J1 at hm
      refine wseq ?_
      refine regP T hS (sp := []) (ks := [3, 27]) (bs := []) (sy' := ⟨[(3, V (.string (bs out_101))), (27, B (decide (n_ < 0)))], []⟩) (by kernel_rfl) ?_
      intro a hS
      refine wcond hS (b := decide (n_ < 0)) (by kernel_rfl) (fun hb => ?_) (fun hb => ?_)
      · replace hm := hm.1 hb
        refine regO ?_
        refine opsP T hS 1 (sp := []) (ks := [28]) (bs := []) (sy' := ⟨[(28, V (.string (bs out_101)))], []⟩) (by kernel_rfl) ?_
        intro a hS
        obtain ⟨hq, hm⟩ := hm
        refine op1 (sadd (p := ([45] : List UInt8)) (q := out_101) hS (by kernel_rfl) (by kernel_rfl) (by kernel_rfl) (by kernel_rfl) hq ?_)
        intro a hS
        clear hq
        refine endP T hS (sp := []) (ks := [2]) (bs := []) (sy' := ⟨[(2, V (.string (bs (([45] : List UInt8) ++ out_101))))], []⟩) (by kernel_rfl) ?_
        intro a hS
        refine wret ?_
        exact fin T hS hO (fun c => c) rfl (r := [.string (bs (([45] : List UInt8) ++ out_101))]) (by kernel_rfl) (fun χ' hM hC => ⟨(([45] : List UInt8) ++ out_101), hm, rfl⟩)
      · replace hm := hm.2 hb
        refine wskip ?_
        refine regP T hS (sp := []) (ks := [2]) (bs := []) (sy' := ⟨[(2, V (.string (bs out_101)))], []⟩) (by kernel_rfl) ?_
        intro a hS
        refine wret ?_
        exact fin T hS hO (fun c => c) rfl (r := [.string (bs out_101)]) (by kernel_rfl) (fun χ' hM hC => ⟨out_101, hm, rfl⟩)
theorem C27 (v : ∀ (n_ : Int), preI n_ → VC27 n_ (fun r => r = ref05_Digits n_)) : S27 := by
  intro w χ n_    hp 
  refine (W27 w χ n_    _ (v n_ hp)).mono ?_
  rintro _ _ _ _ ⟨r, rfl, h⟩
  exact h
def S23 : Prop := ∀ (w : World) (χ : Nat → Nat) (l_ : List (List Ref05_Token)) (a1 : Option Addr) (c1 : Nat), preRJ l_ → RS (tSlice tRef05_Token) w χ a1 l_ c1 → Ret Tryd.prog 23 #[.slice a1 l_.length c1] xnone w χ (fun w χ' v => v = .string (bs (ref05_Join l_)))
theorem hb23 : hasBody Tryd.prog 23 = true := by kernel_rfl
/-- replevin/replevinref05.Join -/
theorem W23 (w0 : World) (χ0 : Nat → Nat) (l_ : List (List Ref05_Token)) (a1 : Option Addr) (c1 : Nat) (Q : (List UInt8) → Prop) (hm : VC23 l_ Q) (h1 : RS (tSlice tRef05_Token) w0 χ0 a1 l_ c1) :
    Ret Tryd.prog 23 #[.slice a1 l_.length c1] xnone w0 χ0 (fun w χ' v => ∃ r, Q r ∧ v = .string (bs r)) := by
  unfold VC23 at hm
  replace hm := hm (h1.sm (by kernel_rfl))
  refine enter Tryd.func23 rfl (vals := [.slice a1 l_.length c1]) (by kernel_rfl) ?_
  intro ρ a hS hO hM
  replace h1 := h1.m0 hM
  clear hM
  refine regP T hS (sp := []) (ks := [0]) (bs := []) (sy' := ⟨[(0, V (.slice a1 l_.length c1))], []⟩) (by kernel_rfl) ?_
  intro a hS
  refine regP T hS (sp := []) (ks := [0, 3]) (bs := []) (sy' := ⟨[(0, V (.slice a1 l_.length c1)), (3, V (.string (bs ([] : List UInt8))))], []⟩) (by kernel_rfl) ?_
  intro a hS
  refine wcut (fun a w => ∃ (ρ : Nat → Nat) (χ : Nat → Nat) (out_101 : List UInt8), VC23_J1 Q out_101 ∧ St Tryd.f23.ntmps ⟨[(3, V (.string (bs out_101)))], []⟩ ρ a w χ ∧ Old w0 χ0 w χ) ?_ ?_
  · refine regP T hS (sp := []) (ks := [0, 3, 4]) (bs := []) (sy' := ⟨[(0, V (.slice a1 l_.length c1)), (3, V (.string (bs ([] : List UInt8)))), (4, I 0)], []⟩) (by kernel_rfl) ?_
    intro a hS
    refine wblock ?_
    obtain ⟨I1, μ1, hm0, hm⟩ := hm
    refine wloop (σ := (List UInt8) × Int) (fun s a w => ∃ (ρ : Nat → Nat) (χ : Nat → Nat), I1 s.1 s.2 ∧ St Tryd.f23.ntmps ⟨[(0, V (.slice a1 l_.length c1)), (3, V (.string (bs s.1))), (4, I s.2)], []⟩ ρ a w χ ∧ Old w0 χ0 w χ ∧ RS (tSlice tRef05_Token) w χ a1 l_ c1) (fun s => μ1 s.1 s.2) (⟨([] : List UInt8), 0⟩) ?_ ?_
    · exact ⟨ρ, _, hm0, hS.sel [0, 3, 4] [] (by kernel_rfl), hO, h1⟩
    · rintro ⟨out_103, i_104⟩ a w136 ⟨ρ, χ135, hI, hS, hO, h102⟩
      replace hm := hm out_103 i_104 hI
      clear hI hm0
      refine wseq ?_
      refine regP T hS (sp := []) (ks := [0, 3, 4, 9]) (bs := []) (sy' := ⟨[(0, V (.slice a1 l_.length c1)), (3, V (.string (bs out_103))), (4, I i_104), (9, B (decide (i_104 < ((l_.length : Nat) : Int))))], []⟩) (by kernel_rfl) ?_
      intro a hS
      refine wcond hS (b := decide (i_104 < ((l_.length : Nat) : Int))) (by kernel_rfl) (fun hb => ?_) (fun hb => ?_)
      · replace hm := hm.1 hb
        refine wskip ?_
        refine wseq ?_
        refine wblock ?_
        refine wcut (fun a w => ∃ (ρ : Nat → Nat) (χ : Nat → Nat) (out_106 : List UInt8), VC23_J2 I1 μ1 out_103 i_104 out_106 ∧ St Tryd.f23.ntmps ⟨[(0, V (.slice a1 l_.length c1)), (3, V (.string (bs out_106))), (4, I i_104)], []⟩ ρ a w χ ∧ Old w0 χ0 w χ ∧ RS (tSlice tRef05_Token) w χ a1 l_ c1) ?_ ?_
        · refine regP T hS (sp := []) (ks := [0, 3, 4, 5]) (bs := []) (sy' := ⟨[(0, V (.slice a1 l_.length c1)), (3, V (.string (bs out_103))), (4, I i_104), (5, I 0)], []⟩) (by kernel_rfl) ?_
          intro a hS
          refine wblock ?_
          obtain ⟨I2, μ2, hm0, hm⟩ := hm
          refine wloop (σ := (List UInt8) × Int) (fun s a w => ∃ (ρ : Nat → Nat) (χ : Nat → Nat), I2 s.1 s.2 ∧ St Tryd.f23.ntmps ⟨[(0, V (.slice a1 l_.length c1)), (3, V (.string (bs s.1))), (4, I i_104), (5, I s.2)], []⟩ ρ a w χ ∧ Old w0 χ0 w χ ∧ RS (tSlice tRef05_Token) w χ a1 l_ c1) (fun s => μ2 s.1 s.2) (⟨out_103, 0⟩) ?_ ?_
          · exact ⟨ρ, _, hm0, hS.sel [0, 3, 4, 5] [] (by kernel_rfl), hO, h102⟩
          · rintro ⟨out_108, k_109⟩ a w132 ⟨ρ, χ131, hI, hS, hO, h107⟩
            replace hm := hm out_108 k_109 hI
            clear hI hm0
            refine wseq ?_
            refine regO ?_
            refine opsP T hS 3 (sp := []) (ks := [0, 3, 4, 5, 12, 13, 14]) (bs := []) (sy' := ⟨[(0, V (.slice a1 l_.length c1)), (3, V (.string (bs out_108))), (4, I i_104), (5, I k_109), (12, I k_109), (13, V (.slice a1 l_.length c1)), (14, I i_104)], []⟩) (by kernel_rfl) ?_
            intro a hS
            obtain ⟨hq, hm⟩ := hm
            refine op1 (index (e := 83) (k := .i64) T hS (by kernel_rfl) (by kernel_rfl) (by kernel_rfl) (by kernel_rfl) h107 (by kernel_rfl) (by kernel_rfl) hq.1 hq.2 ?_)
            intro A110 a h111 hS
            clear hq
            refine op1 (load1 T hS (by kernel_rfl) (by kernel_rfl) (by kernel_rfl) h111 rfl (by kernel_rfl) ?_)
            intro v112 a hv hS
            obtain ⟨a113, c114, hv, h115⟩ := hv
            cases hv
            replace hm := hm (h115.sm (by kernel_rfl))
            refine endP T hS (sp := []) (ks := [0, 3, 4, 5, 18]) (bs := []) (sy' := ⟨[(0, V (.slice a1 l_.length c1)), (3, V (.string (bs out_108))), (4, I i_104), (5, I k_109), (18, B (decide (k_109 < (((gi l_ i_104).length : Nat) : Int))))], []⟩) (by kernel_rfl) ?_
            intro a hS
            refine wcond hS (b := decide (k_109 < (((gi l_ i_104).length : Nat) : Int))) (by kernel_rfl) (fun hb => ?_) (fun hb => ?_)
            · replace hm := hm.1 hb
              refine wskip ?_
              refine wseq ?_
              refine wblock ?_
              refine wcut (fun a w => ∃ (ρ : Nat → Nat) (χ : Nat → Nat) (out_117 : List UInt8), VC23_J3 l_ i_104 I2 μ2 out_108 k_109 out_117 ∧ St Tryd.f23.ntmps ⟨[(0, V (.slice a1 l_.length c1)), (3, V (.string (bs out_117))), (4, I i_104), (5, I k_109)], []⟩ ρ a w χ ∧ Old w0 χ0 w χ ∧ RS (tSlice tRef05_Token) w χ a1 l_ c1) ?_ ?_
              · refine regP T hS (sp := []) (ks := [0, 3, 4, 5, 22]) (bs := []) (sy' := ⟨[(0, V (.slice a1 l_.length c1)), (3, V (.string (bs out_108))), (4, I i_104), (5, I k_109), (22, B (decide (k_109 > 0)))], []⟩) (by kernel_rfl) ?_
                intro a hS
                refine wcond hS (b := decide (k_109 > 0)) (by kernel_rfl) (fun hb => ?_) (fun hb => ?_)
                · replace hm := hm.1 hb
                  refine region ?_
                  refine opsP T hS 1 (sp := []) (ks := [0, 3, 4, 5, 23]) (bs := []) (sy' := ⟨[(0, V (.slice a1 l_.length c1)), (3, V (.string (bs out_108))), (4, I i_104), (5, I k_109), (23, V (.string (bs out_108)))], []⟩) (by kernel_rfl) ?_
                  intro a hS
                  obtain ⟨hq, hm⟩ := hm
                  refine op1 (sadd (p := out_108) (q := ([32] : List UInt8)) hS (by kernel_rfl) (by kernel_rfl) (by kernel_rfl) (by kernel_rfl) hq ?_)
                  intro a hS
                  clear hq
                  refine endP T hS (sp := []) (ks := [0, 3, 4, 5]) (bs := []) (sy' := ⟨[(0, V (.slice a1 l_.length c1)), (3, V (.string (bs (out_108 ++ ([32] : List UInt8))))), (4, I i_104), (5, I k_109)], []⟩) (by kernel_rfl) ?_
                  intro a hS
                  exact ⟨ρ, _, (out_108 ++ ([32] : List UInt8)), hm, hS.sel [0, 3, 4, 5] [] (by kernel_rfl), hO, h107⟩
                · replace hm := hm.2 hb
                  refine wskip ?_
                  exact ⟨ρ, _, out_108, hm, hS.sel [0, 3, 4, 5] [] (by kernel_rfl), hO, h107⟩
              · rintro a w130 ⟨ρ, χ129, out_117, hm, hS, hO, h116⟩
                unfold VC23_J3 at hm
                refine region ?_
                refine opsP T hS 3 (sp := []) (ks := [0, 3, 4, 5, 25, 26, 27]) (bs := []) (sy' := ⟨[(0, V (.slice a1 l_.length c1)), (3, V (.string (bs out_117))), (4, I i_104), (5, I k_109), (25, V (.string (bs out_117))), (26, V (.slice a1 l_.length c1)), (27, I i_104)], []⟩) (by kernel_rfl) ?_
                intro a hS
                obtain ⟨hq, hm⟩ := hm
                refine op1 (index (e := 83) (k := .i64) T hS (by kernel_rfl) (by kernel_rfl) (by kernel_rfl) (by kernel_rfl) h116 (by kernel_rfl) (by kernel_rfl) hq.1 hq.2 ?_)
                intro A118 a h119 hS
                clear hq
                refine op1 (load1 T hS (by kernel_rfl) (by kernel_rfl) (by kernel_rfl) h119 rfl (by kernel_rfl) ?_)
                intro v120 a hv hS
                obtain ⟨a121, c122, hv, h123⟩ := hv
                cases hv
                replace hm := hm (h123.sm (by kernel_rfl))
                refine opsP T hS 1 (sp := []) (ks := [0, 3, 4, 5, 25, 29, 30]) (bs := []) (sy' := ⟨[(0, V (.slice a1 l_.length c1)), (3, V (.string (bs out_117))), (4, I i_104), (5, I k_109), (25, V (.string (bs out_117))), (29, V (.slice a121 (gi l_ i_104).length c122)), (30, I k_109)], []⟩) (by kernel_rfl) ?_
                intro a hS
                obtain ⟨hq, hm⟩ := hm
                refine op1 (index (e := 85) (k := .i64) T hS (by kernel_rfl) (by kernel_rfl) (by kernel_rfl) (by kernel_rfl) h123 (by kernel_rfl) (by kernel_rfl) hq.1 hq.2 ?_)
                intro A124 a h125 hS
                clear hq
                refine op1 (fieldA (off := 2) (fsz := 1) (ft := 9) (TF := tStr) (y := (gi (gi l_ i_104) k_109).Text) T hS (by kernel_rfl) (by kernel_rfl) (by kernel_rfl) h125 (by kernel_rfl) (by kernel_rfl) (by kernel_rfl) (fun cs h => Ref05_Token_f2 h) ?_)
                intro A126 a h127 hS
                refine op1 (load1 T hS (by kernel_rfl) (by kernel_rfl) (by kernel_rfl) h127 rfl (by kernel_rfl) ?_)
                intro v128 a hv hS
                cases hv
                obtain ⟨hq, hm⟩ := hm
                refine op1 (sadd (p := out_117) (q := (gi (gi l_ i_104) k_109).Text) hS (by kernel_rfl) (by kernel_rfl) (by kernel_rfl) (by kernel_rfl) hq ?_)
                intro a hS
                clear hq
                refine endP T hS (sp := []) (ks := [0, 3, 4, 5]) (bs := []) (sy' := ⟨[(0, V (.slice a1 l_.length c1)), (3, V (.string (bs (out_117 ++ ((gi (gi l_ i_104) k_109).Text))))), (4, I i_104), (5, I k_109)], []⟩) (by kernel_rfl) ?_
                intro a hS
                refine region (endP T hS (sp := []) (ks := [0, 3, 4, 5]) (bs := []) (sy' := ⟨[(0, V (.slice a1 l_.length c1)), (3, V (.string (bs (out_117 ++ ((gi (gi l_ i_104) k_109).Text))))), (4, I i_104), (5, I (IntKind.i64.wrap (k_109 + 1)))], []⟩) (by kernel_rfl) ?_)
                intro a hS
                exact ⟨⟨(out_117 ++ ((gi (gi l_ i_104) k_109).Text)), IntKind.i64.wrap (k_109 + 1)⟩, ⟨ρ, _, hm.1, hS.sel [0, 3, 4, 5] [] (by kernel_rfl), hO, h116⟩, hm.2⟩
            · replace hm := hm.2 hb
              refine wexit (by rfl) ?_
              exact ⟨ρ, _, out_108, hm, hS.sel [0, 3, 4] [] (by kernel_rfl), hO, h107⟩
        · rintro a w134 ⟨ρ, χ133, out_106, hm, hS, hO, h105⟩
          unfold VC23_J2 at hm
          refine region ?_
          refine opsP T hS 1 (sp := []) (ks := [0, 3, 4, 35]) (bs := []) (sy' := ⟨[(0, V (.slice a1 l_.length c1)), (3, V (.string (bs out_106))), (4, I i_104), (35, V (.string (bs out_106)))], []⟩) (by kernel_rfl) ?_
          intro a hS
          obtain ⟨hq, hm⟩ := hm
          refine op1 (sadd (p := out_106) (q := ([10] : List UInt8)) hS (by kernel_rfl) (by kernel_rfl) (by kernel_rfl) (by kernel_rfl) hq ?_)
          intro a hS
          clear hq
          refine endP T hS (sp := []) (ks := [0, 3, 4]) (bs := []) (sy' := ⟨[(0, V (.slice a1 l_.length c1)), (3, V (.string (bs (out_106 ++ ([10] : List UInt8))))), (4, I i_104)], []⟩) (by kernel_rfl) ?_
          intro a hS
          refine region (endP T hS (sp := []) (ks := [0, 3, 4]) (bs := []) (sy' := ⟨[(0, V (.slice a1 l_.length c1)), (3, V (.string (bs (out_106 ++ ([10] : List UInt8))))), (4, I (IntKind.i64.wrap (i_104 + 1)))], []⟩) (by kernel_rfl) ?_)
          intro a hS
          exact ⟨⟨(out_106 ++ ([10] : List UInt8)), IntKind.i64.wrap (i_104 + 1)⟩, ⟨ρ, _, hm.1, hS.sel [0, 3, 4] [] (by kernel_rfl), hO, h105⟩, hm.2⟩
      · replace hm := hm.2 hb
        refine wexit (by rfl) ?_
        exact ⟨ρ, _, out_103, hm, hS.sel [3] [] (by kernel_rfl), hO⟩
  · rintro a w138 ⟨ρ, χ137, out_101, hm, hS, hO⟩
    unfold VC23_J1 at hm
    refine regP T hS (sp := []) (ks := [2]) (bs := []) (sy' := ⟨[(2, V (.string (bs out_101)))], []⟩) (by kernel_rfl) ?_
    intro a hS
    refine wret ?_
    exact fin T hS hO (fun c => c) rfl (r := [.string (bs out_101)]) (by kernel_rfl) (fun χ' hM hC => ⟨out_101, hm, rfl⟩)
theorem C23 (v : ∀ (l_ : List (List Ref05_Token)), preRJ l_ → VC23 l_ (fun r => r = ref05_Join l_)) : S23 := by
  intro w χ l_ a1 c1   hp h1
  refine (W23 w χ l_ a1 c1   _ (v l_ hp) h1).mono ?_
  rintro _ _ _ _ ⟨r, rfl, h⟩
  exact h
def S17 : Prop := ∀ (w : World) (χ : Nat → Nat) (s_ : List UInt8), len1 s_ → Ret Tryd.prog 17 #[.string (bs s_)] xnone w χ (fun w χ' v => ∃ (ra1 : Option Addr) (rc1 : Nat), v = .slice ra1 (ref05_Lines s_).length rc1 ∧ RS (tSlice tRef05_Token) w χ' ra1 (ref05_Lines s_) rc1)
theorem hb17 : hasBody Tryd.prog 17 = true := by kernel_rfl
/-- replevin/replevinref05.Lines -/
theorem W17 (k55 : S55) (w0 : World) (χ0 : Nat → Nat) (s_ : List UInt8) (Q : (List (List Ref05_Token)) → Prop) (hm : VC17 s_ Q) :
    Ret Tryd.prog 17 #[.string (bs s_)] xnone w0 χ0 (fun w χ' v => ∃ r, Q r ∧ ∃ (ra1 : Option Addr) (rc1 : Nat), v = .slice ra1 r.length rc1 ∧ RS (tSlice tRef05_Token) w χ' ra1 r rc1) := by
  unfold VC17 at hm
  refine enter Tryd.func17 rfl (vals := [.string (bs s_)]) (by kernel_rfl) ?_
  intro ρ a hS hO hM
  clear hM
  refine regP T hS (sp := []) (ks := [0]) (bs := []) (sy' := ⟨[(0, V (.string (bs s_)))], []⟩) (by kernel_rfl) ?_
  intro a hS
  refine regP T hS (sp := []) (ks := [0, 3]) (bs := []) (sy' := ⟨[(0, V (.string (bs s_))), (3, V (.slice none 0 0))], []⟩) (by kernel_rfl) ?_
  intro a hS
  refine regP T hS (sp := []) (ks := [0, 3, 4]) (bs := []) (sy' := ⟨[(0, V (.string (bs s_))), (3, V (.slice none 0 0)), (4, I 0)], []⟩) (by kernel_rfl) ?_
  intro a hS
  refine wcut (fun a w => ∃ (ρ : Nat → Nat) (χ : Nat → Nat) (out_101 : List (List Ref05_Token)) (a102 : Option Addr) (c103 : Nat), VC17_J1 Q out_101 ∧ St Tryd.f17.ntmps ⟨[(3, V (.slice a102 out_101.length c103))], []⟩ ρ a w χ ∧ Old w0 χ0 w χ ∧ OS (tSlice tRef05_Token) 83 w χ 1003 a102 out_101 c103) ?_ ?_
  · refine wblock ?_
    obtain ⟨I1, μ1, hm0, hm⟩ := hm
    refine wloop (σ := (List (List Ref05_Token)) × Int) (fun s a w => ∃ (ρ : Nat → Nat) (χ : Nat → Nat) (a108 : Option Addr) (c109 : Nat), I1 s.1 s.2 ∧ St Tryd.f17.ntmps ⟨[(0, V (.string (bs s_))), (3, V (.slice a108 s.1.length c109)), (4, I s.2)], []⟩ ρ a w χ ∧ Old w0 χ0 w χ ∧ OS (tSlice tRef05_Token) 83 w χ 1003 a108 s.1 c109) (fun s => μ1 s.1 s.2) (⟨[], 0⟩) ?_ ?_
    · exact ⟨ρ, _, none, 0, hm0, hS.sel [0, 3, 4] [] (by kernel_rfl), hO, (OS.nil _ _ _ _ _)⟩
    · rintro ⟨out_107, at_111⟩ a w234 ⟨ρ, χ233, a108, c109, hI, hS, hO, h110⟩
      replace hm := hm out_107 at_111 hI
      clear hI hm0
      refine wseq ?_
      refine regP T hS (sp := []) (ks := [0, 3, 4, 13]) (bs := []) (sy' := ⟨[(0, V (.string (bs s_))), (3, V (.slice a108 out_107.length c109)), (4, I at_111), (13, B (decide (at_111 < ((s_.length : Nat) : Int))))], []⟩) (by kernel_rfl) ?_
      intro a hS
      refine wcond hS (b := decide (at_111 < ((s_.length : Nat) : Int))) (by kernel_rfl) (fun hb => ?_) (fun hb => ?_)
      · replace hm := hm.1 hb
        refine wskip ?_
        refine wblock ?_
        refine regP T hS (sp := []) (ks := [0, 3, 4, 5]) (bs := []) (sy' := ⟨[(0, V (.string (bs s_))), (3, V (.slice a108 out_107.length c109)), (4, I at_111), (5, I at_111)], []⟩) (by kernel_rfl) ?_
        intro a hS
        refine wcut (fun a w => ∃ (ρ : Nat → Nat) (χ : Nat → Nat) (out_112 : List (List Ref05_Token)) (end_116 : Int) (a113 : Option Addr) (c114 : Nat), VC17_J2 s_ I1 μ1 out_107 at_111 out_112 end_116 ∧ St Tryd.f17.ntmps ⟨[(0, V (.string (bs s_))), (3, V (.slice a113 out_112.length c114)), (4, I at_111), (5, I end_116)], []⟩ ρ a w χ ∧ Old w0 χ0 w χ ∧ OS (tSlice tRef05_Token) 83 w χ 1003 a113 out_112 c114) ?_ ?_
        · refine wblock ?_
          obtain ⟨I4, μ4, hm0, hm⟩ := hm
          refine wloop (σ := (List (List Ref05_Token)) × Int) (fun s a w => ∃ (ρ : Nat → Nat) (χ : Nat → Nat) (a218 : Option Addr) (c219 : Nat), I4 s.1 s.2 ∧ St Tryd.f17.ntmps ⟨[(0, V (.string (bs s_))), (3, V (.slice a218 s.1.length c219)), (4, I at_111), (5, I s.2)], []⟩ ρ a w χ ∧ Old w0 χ0 w χ ∧ OS (tSlice tRef05_Token) 83 w χ 1003 a218 s.1 c219) (fun s => μ4 s.1 s.2) (⟨out_107, at_111⟩) ?_ ?_
          · exact ⟨ρ, _, a108, c109, hm0, hS.sel [0, 3, 4, 5] [] (by kernel_rfl), hO, h110⟩
          · rintro ⟨out_217, end_221⟩ a w230 ⟨ρ, χ229, a218, c219, hI, hS, hO, h220⟩
            replace hm := hm out_217 end_221 hI
            clear hI hm0
            refine wseq ?_
            refine wcut (fun a w => ∃ (ρ : Nat → Nat) (χ : Nat → Nat) (out_222 : List (List Ref05_Token)) (x_226 : Bool) (a223 : Option Addr) (c224 : Nat), VC17_J8 s_ I1 μ1 out_107 at_111 I4 μ4 out_217 end_221 out_222 x_226 ∧ St Tryd.f17.ntmps ⟨[(0, V (.string (bs s_))), (3, V (.slice a223 out_222.length c224)), (4, I at_111), (5, I end_221), (24, B x_226)], []⟩ ρ a w χ ∧ Old w0 χ0 w χ ∧ OS (tSlice tRef05_Token) 83 w χ 1003 a223 out_222 c224) ?_ ?_
            · refine region ?_
              refine opsP T hS 5 (sp := []) (ks := [0, 3, 4, 5, 19]) (bs := []) (sy' := ⟨[(0, V (.string (bs s_))), (3, V (.slice a218 out_217.length c219)), (4, I at_111), (5, I end_221), (19, B (decide (end_221 < ((s_.length : Nat) : Int))))], []⟩) (by kernel_rfl) ?_
              intro a hS
              rcases Bool.eq_false_or_eq_true (decide (end_221 < ((s_.length : Nat) : Int))) with hb | hb
              · replace hS := hS.lit (t := 19) (by kernel_rfl) hb
                replace hm := hm.1 hb
                refine opsP T hS 2 (sp := []) (ks := [0, 3, 4, 5, 19, 20, 21]) (bs := []) (sy' := ⟨[(0, V (.string (bs s_))), (3, V (.slice a218 out_217.length c219)), (4, I at_111), (5, I end_221), (19, B true), (20, V (.string (bs s_))), (21, I end_221)], []⟩) (by kernel_rfl) ?_
                intro a hS
                obtain ⟨hq, hm⟩ := hm
                refine op1 (sindex (k := .i64) T hS (by kernel_rfl) (by kernel_rfl) (by kernel_rfl) (by kernel_rfl) (by kernel_rfl) hq.1 hq.2 ?_)
                intro a hS
                clear hq
                refine endP T hS (sp := []) (ks := [0, 3, 4, 5, 20, 21, 22, 23, 24]) (bs := []) (sy' := ⟨[(0, V (.string (bs s_))), (3, V (.slice a218 out_217.length c219)), (4, I at_111), (5, I end_221), (20, V (.string (bs s_))), (21, I end_221), (22, V (.int .u8 ((gi s_ end_221).toNat : Int))), (23, B (((gi s_ end_221).toNat : Int) != 10)), (24, B (((gi s_ end_221).toNat : Int) != 10))], []⟩) (by kernel_rfl) ?_
                intro a hS
                exact ⟨ρ, _, out_217, (((gi s_ end_221).toNat : Int) != 10), a218, c219, hm, hS.sel [0, 3, 4, 5, 24] [] (by kernel_rfl), hO, h220⟩
              · replace hS := hS.lit (t := 19) (by kernel_rfl) hb
                replace hm := hm.2 hb
                refine endP T hS (sp := []) (ks := [0, 3, 4, 5, 24]) (bs := []) (sy' := ⟨[(0, V (.string (bs s_))), (3, V (.slice a218 out_217.length c219)), (4, I at_111), (5, I end_221), (24, B false)], []⟩) (by kernel_rfl) ?_
                intro a hS
                exact ⟨ρ, _, out_217, false, a218, c219, hm, hS.sel [0, 3, 4, 5, 24] [] (by kernel_rfl), hO, h220⟩
            · rintro a w228 ⟨ρ, χ227, out_222, x_226, a223, c224, hm, hS, hO, h225⟩
              unfold VC17_J8 at hm
              refine wcond hS (b := x_226) (by kernel_rfl) (fun hb => ?_) (fun hb => ?_)
              · replace hm := hm.1 hb
                refine wskip ?_
                refine wblock ?_
                refine region (endP T hS (sp := []) (ks := [0, 3, 4, 5]) (bs := []) (sy' := ⟨[(0, V (.string (bs s_))), (3, V (.slice a223 out_222.length c224)), (4, I at_111), (5, I (IntKind.i64.wrap (end_221 + 1)))], []⟩) (by kernel_rfl) ?_)
                intro a hS
                exact ⟨⟨out_222, IntKind.i64.wrap (end_221 + 1)⟩, ⟨ρ, _, a223, c224, hm.1, hS.sel [0, 3, 4, 5] [] (by kernel_rfl), hO, h225⟩, hm.2⟩
              · replace hm := hm.2 hb
                refine wexit (by rfl) ?_
                exact ⟨ρ, _, out_222, end_221, a223, c224, hm, hS.sel [0, 3, 4, 5] [] (by kernel_rfl), hO, h225⟩
        · rintro a w232 ⟨ρ, χ231, out_112, end_116, a113, c114, hm, hS, hO, h115⟩
          unfold VC17_J2 at hm
          refine regP T hS (sp := []) (ks := [0, 3, 4, 5, 6]) (bs := []) (sy' := ⟨[(0, V (.string (bs s_))), (3, V (.slice a113 out_112.length c114)), (4, I at_111), (5, I end_116), (6, V (.slice none 0 0))], []⟩) (by kernel_rfl) ?_
          intro a hS
          refine wcut (fun a w => ∃ (ρ : Nat → Nat) (χ : Nat → Nat) (out_117 : List (List Ref05_Token)) (remark_121 : Bool) (a118 : Option Addr) (c119 : Nat), VC17_J3 s_ I1 μ1 out_107 at_111 end_116 out_117 remark_121 ∧ St Tryd.f17.ntmps ⟨[(0, V (.string (bs s_))), (3, V (.slice a118 out_117.length c119)), (4, I at_111), (5, I end_116), (6, V (.slice none 0 0)), (7, B remark_121)], []⟩ ρ a w χ ∧ Old w0 χ0 w χ ∧ OS (tSlice tRef05_Token) 83 w χ 1003 a118 out_117 c119) ?_ ?_
          · refine region ?_
            refine opsP T hS 3 (sp := []) (ks := [0, 3, 4, 5, 6, 27, 28, 29]) (bs := []) (sy' := ⟨[(0, V (.string (bs s_))), (3, V (.slice a113 out_112.length c114)), (4, I at_111), (5, I end_116), (6, V (.slice none 0 0)), (27, V (.string (bs s_))), (28, I at_111), (29, I end_116)], []⟩) (by kernel_rfl) ?_
            intro a hS
            obtain ⟨hq, hm⟩ := hm
            refine op1 (sslice2 (kl := .i64) (kh := .i64) (s := s_) T hS (by kernel_rfl) (by kernel_rfl) (by kernel_rfl) (by kernel_rfl) (by kernel_rfl) (by kernel_rfl) hq.1 hq.2.1 hq.2.2 ?_)
            intro a hS
            clear hq
            refine opsP T hS 2 (sp := []) (ks := [0, 3, 4, 5, 6, 32]) (bs := []) (sy' := ⟨[(0, V (.string (bs s_))), (3, V (.slice a113 out_112.length c114)), (4, I at_111), (5, I end_116), (6, V (.slice none 0 0)), (32, B (((s_.take end_116.toNat).drop at_111.toNat) == ([99] : List UInt8)))], []⟩) (by kernel_rfl) ?_
            intro a hS
            rcases Bool.eq_false_or_eq_true (((s_.take end_116.toNat).drop at_111.toNat) == ([99] : List UInt8)) with hb | hb
            · replace hS := hS.lit (t := 32) (by kernel_rfl) hb
              replace hm := hm.1 hb
              refine endP T hS (sp := []) (ks := [0, 3, 4, 5, 6, 7]) (bs := []) (sy' := ⟨[(0, V (.string (bs s_))), (3, V (.slice a113 out_112.length c114)), (4, I at_111), (5, I end_116), (6, V (.slice none 0 0)), (7, B true)], []⟩) (by kernel_rfl) ?_
              intro a hS
              exact ⟨ρ, _, out_112, true, a113, c114, hm, hS.sel [0, 3, 4, 5, 6, 7] [] (by kernel_rfl), hO, h115⟩
            · replace hS := hS.lit (t := 32) (by kernel_rfl) hb
              replace hm := hm.2 hb
              refine opsP T hS 5 (sp := []) (ks := [0, 3, 4, 5, 6, 32, 33, 34, 35, 36, 37]) (bs := []) (sy' := ⟨[(0, V (.string (bs s_))), (3, V (.slice a113 out_112.length c114)), (4, I at_111), (5, I end_116), (6, V (.slice none 0 0)), (32, B false), (33, I end_116), (34, I at_111), (35, I (IntKind.i64.wrap (end_116 - at_111))), (36, B (decide ((IntKind.i64.wrap (end_116 - at_111)) ≥ 2))), (37, B (decide ((IntKind.i64.wrap (end_116 - at_111)) ≥ 2)))], []⟩) (by kernel_rfl) ?_
              intro a hS
              rcases Bool.eq_false_or_eq_true (decide ((IntKind.i64.wrap (end_116 - at_111)) ≥ 2)) with hb | hb
              · replace hS := hS.lit (t := 37) (by kernel_rfl) hb
                replace hm := hm.1 hb
                refine opsP T hS 4 (sp := []) (ks := [0, 3, 4, 5, 6, 32, 33, 34, 35, 36, 37, 38, 39, 40, 41]) (bs := []) (sy' := ⟨[(0, V (.string (bs s_))), (3, V (.slice a113 out_112.length c114)), (4, I at_111), (5, I end_116), (6, V (.slice none 0 0)), (32, B false), (33, I end_116), (34, I at_111), (35, I (IntKind.i64.wrap (end_116 - at_111))), (36, B (decide ((IntKind.i64.wrap (end_116 - at_111)) ≥ 2))), (37, B true), (38, V (.string (bs s_))), (39, I at_111), (40, I at_111), (41, I (IntKind.i64.wrap (at_111 + 2)))], []⟩) (by kernel_rfl) ?_
                intro a hS
                obtain ⟨hq, hm⟩ := hm
                refine op1 (sslice2 (kl := .i64) (kh := .i64) (s := s_) T hS (by kernel_rfl) (by kernel_rfl) (by kernel_rfl) (by kernel_rfl) (by kernel_rfl) (by kernel_rfl) hq.1 hq.2.1 hq.2.2 ?_)
                intro a hS
                clear hq
                refine endP T hS (sp := []) (ks := [0, 3, 4, 5, 6, 7, 33, 34, 35, 36, 37, 38, 39, 40, 41, 42, 43, 44]) (bs := []) (sy' := ⟨[(0, V (.string (bs s_))), (3, V (.slice a113 out_112.length c114)), (4, I at_111), (5, I end_116), (6, V (.slice none 0 0)), (7, B (((s_.take (IntKind.i64.wrap (at_111 + 2)).toNat).drop at_111.toNat) == ([99, 32] : List UInt8))), (33, I end_116), (34, I at_111), (35, I (IntKind.i64.wrap (end_116 - at_111))), (36, B (decide ((IntKind.i64.wrap (end_116 - at_111)) ≥ 2))), (37, B true), (38, V (.string (bs s_))), (39, I at_111), (40, I at_111), (41, I (IntKind.i64.wrap (at_111 + 2))), (42, V (.string (bs ((s_.take (IntKind.i64.wrap (at_111 + 2)).toNat).drop at_111.toNat)))), (43, B (((s_.take (IntKind.i64.wrap (at_111 + 2)).toNat).drop at_111.toNat) == ([99, 32] : List UInt8))), (44, B (((s_.take (IntKind.i64.wrap (at_111 + 2)).toNat).drop at_111.toNat) == ([99, 32] : List UInt8)))], []⟩) (by kernel_rfl) ?_
                intro a hS
                exact ⟨ρ, _, out_112, (((s_.take (IntKind.i64.wrap (at_111 + 2)).toNat).drop at_111.toNat) == ([99, 32] : List UInt8)), a113, c114, hm, hS.sel [0, 3, 4, 5, 6, 7] [] (by kernel_rfl), hO, h115⟩
              · replace hS := hS.lit (t := 37) (by kernel_rfl) hb
                replace hm := hm.2 hb
                refine endP T hS (sp := []) (ks := [0, 3, 4, 5, 6, 7, 33, 34, 35, 36, 37, 44]) (bs := []) (sy' := ⟨[(0, V (.string (bs s_))), (3, V (.slice a113 out_112.length c114)), (4, I at_111), (5, I end_116), (6, V (.slice none 0 0)), (7, B false), (33, I end_116), (34, I at_111), (35, I (IntKind.i64.wrap (end_116 - at_111))), (36, B (decide ((IntKind.i64.wrap (end_116 - at_111)) ≥ 2))), (37, B false), (44, B false)], []⟩) (by kernel_rfl) ?_
                intro a hS
                exact ⟨ρ, _, out_112, false, a113, c114, hm, hS.sel [0, 3, 4, 5, 6, 7] [] (by kernel_rfl), hO, h115⟩
          · rintro a w216 ⟨ρ, χ215, out_117, remark_121, a118, c119, hm, hS, hO, h120⟩
            unfold VC17_J3 at hm
            refine wcut (fun a w => ∃ (ρ : Nat → Nat) (χ : Nat → Nat) (out_122 : List (List Ref05_Token)) (row_126 : List Ref05_Token) (a123 : Option Addr) (c124 : Nat) (a127 : Option Addr) (c128 : Nat), VC17_J4 I1 μ1 out_107 at_111 end_116 out_122 row_126 ∧ St Tryd.f17.ntmps ⟨[(0, V (.string (bs s_))), (3, V (.slice a123 out_122.length c124)), (5, I end_116), (6, V (.slice a127 row_126.length c128))], []⟩ ρ a w χ ∧ Old w0 χ0 w χ ∧ OS (tSlice tRef05_Token) 83 w χ 1003 a123 out_122 c124 ∧ OS tRef05_Token 85 w χ 1007 a127 row_126 c128) ?_ ?_
            · refine regP T hS (sp := []) (ks := [0, 3, 5, 6, 7, 8]) (bs := []) (sy' := ⟨[(0, V (.string (bs s_))), (3, V (.slice a118 out_117.length c119)), (5, I end_116), (6, V (.slice none 0 0)), (7, B remark_121), (8, I at_111)], []⟩) (by kernel_rfl) ?_
              intro a hS
              refine wblock ?_
              obtain ⟨I2, μ2, hm0, hm⟩ := hm
              refine wloop (σ := (List (List Ref05_Token)) × (List Ref05_Token) × Int) (fun s a w => ∃ (ρ : Nat → Nat) (χ : Nat → Nat) (a142 : Option Addr) (c143 : Nat) (a146 : Option Addr) (c147 : Nat), I2 s.1 s.2.1 s.2.2 ∧ St Tryd.f17.ntmps ⟨[(0, V (.string (bs s_))), (3, V (.slice a142 s.1.length c143)), (5, I end_116), (6, V (.slice a146 s.2.1.length c147)), (7, B remark_121), (8, I s.2.2)], []⟩ ρ a w χ ∧ Old w0 χ0 w χ ∧ OS (tSlice tRef05_Token) 83 w χ 1003 a142 s.1 c143 ∧ OS tRef05_Token 85 w χ 1007 a146 s.2.1 c147) (fun s => μ2 s.1 s.2.1 s.2.2) (⟨out_117, [], at_111⟩) ?_ ?_
              · exact ⟨ρ, _, a118, c119, none, 0, hm0, hS.sel [0, 3, 5, 6, 7, 8] [] (by kernel_rfl), hO, h120, (OS.nil _ _ _ _ _)⟩
              · rintro ⟨out_141, row_145, i_149⟩ a w212 ⟨ρ, χ211, a142, c143, a146, c147, hI, hS, hO, h144, h148⟩
                replace hm := hm out_141 row_145 i_149 hI
                clear hI hm0
                refine wseq ?_
                refine regP T hS (sp := [50]) (ks := [0, 3, 5, 6, 7, 8, 53]) (bs := []) (sy' := ⟨[(0, V (.string (bs s_))), (3, V (.slice a142 out_141.length c143)), (5, I end_116), (6, V (.slice a146 row_145.length c147)), (7, B remark_121), (8, I i_149), (53, B ((decide (i_149 < end_116)) && (!remark_121)))], []⟩) (by kernel_rfl) ?_
                intro a hS
                refine wcond hS (b := ((decide (i_149 < end_116)) && (!remark_121))) (by kernel_rfl) (fun hb => ?_) (fun hb => ?_)
                · replace hm := hm.1 hb
                  refine wskip ?_
                  refine wcut (fun a w => ∃ (ρ : Nat → Nat) (χ : Nat → Nat) (out_150 : List (List Ref05_Token)) (row_154 : List Ref05_Token) (i_158 : Int) (a151 : Option Addr) (c152 : Nat) (a155 : Option Addr) (c156 : Nat), VC17_J5 I2 μ2 out_141 row_145 i_149 out_150 row_154 i_158 ∧ St Tryd.f17.ntmps ⟨[(0, V (.string (bs s_))), (3, V (.slice a151 out_150.length c152)), (5, I end_116), (6, V (.slice a155 row_154.length c156)), (7, B remark_121), (8, I i_158)], []⟩ ρ a w χ ∧ Old w0 χ0 w χ ∧ OS (tSlice tRef05_Token) 83 w χ 1003 a151 out_150 c152 ∧ OS tRef05_Token 85 w χ 1007 a155 row_154 c156) ?_ ?_
                  · refine wblock ?_
                    refine wseq ?_
                    refine regO ?_
                    refine opsP T hS 2 (sp := []) (ks := [0, 3, 5, 6, 7, 8, 56, 57]) (bs := []) (sy' := ⟨[(0, V (.string (bs s_))), (3, V (.slice a142 out_141.length c143)), (5, I end_116), (6, V (.slice a146 row_145.length c147)), (7, B remark_121), (8, I i_149), (56, V (.string (bs s_))), (57, I i_149)], []⟩) (by kernel_rfl) ?_
                    intro a hS
                    obtain ⟨hq, hm⟩ := hm
                    refine op1 (sindex (k := .i64) T hS (by kernel_rfl) (by kernel_rfl) (by kernel_rfl) (by kernel_rfl) (by kernel_rfl) hq.1 hq.2 ?_)
                    intro a hS
                    clear hq
                    refine op1 (call hS (by kernel_rfl) (by kernel_rfl) hb55 (by kernel_rfl) (fun _ _ => rfl) (k55 _ _ ((gi s_ i_149).toNat : Int)) ?_)
                    intro v159 a w160 χ161 hE hp hS
                    replace hO := hO.mv hE rfl rfl
                    replace h144 := h144.mv hE rfl rfl
                    replace h148 := h148.mv hE rfl rfl
                    clear hE
                    obtain ⟨r162, hr⟩ : ∃ r, ref05_gap ((gi s_ i_149).toNat : Int) = r := ⟨_, rfl⟩
                    replace hm := hm r162 hr
                    rw [hr] at hp
                    clear hr
                    subst hp
                    refine doneK ?_
                    refine wcond hS (b := r162) (by kernel_rfl) (fun hb => ?_) (fun hb => ?_)
                    · replace hm := hm.1 hb
                      refine wexit (by rfl) ?_
                      exact ⟨ρ, _, out_141, row_145, i_149, a142, c143, a146, c147, hm, hS.sel [0, 3, 5, 6, 7, 8] [] (by kernel_rfl), hO, h144, h148⟩
                    · replace hm := hm.2 hb
                      refine wskip ?_
                      refine regP T hS (sp := []) (ks := [0, 3, 5, 6, 7, 8, 9]) (bs := []) (sy' := ⟨[(0, V (.string (bs s_))), (3, V (.slice a142 out_141.length c143)), (5, I end_116), (6, V (.slice a146 row_145.length c147)), (7, B remark_121), (8, I i_149), (9, I i_149)], []⟩) (by kernel_rfl) ?_
                      intro a hS
                      refine wcut (fun a w => ∃ (ρ : Nat → Nat) (χ : Nat → Nat) (out_163 : List (List Ref05_Token)) (row_167 : List Ref05_Token) (k_171 : Int) (a164 : Option Addr) (c165 : Nat) (a168 : Option Addr) (c169 : Nat), VC17_J6 s_ I2 μ2 out_141 row_145 i_149 out_163 row_167 k_171 ∧ St Tryd.f17.ntmps ⟨[(0, V (.string (bs s_))), (3, V (.slice a164 out_163.length c165)), (5, I end_116), (6, V (.slice a168 row_167.length c169)), (7, B remark_121), (8, I i_149), (9, I k_171)], []⟩ ρ a w χ ∧ Old w0 χ0 w χ ∧ OS (tSlice tRef05_Token) 83 w χ 1003 a164 out_163 c165 ∧ OS tRef05_Token 85 w χ 1007 a168 row_167 c169) ?_ ?_
                      · refine wblock ?_
                        obtain ⟨I3, μ3, hm0, hm⟩ := hm
                        refine wloop (σ := (List (List Ref05_Token)) × (List Ref05_Token) × Int) (fun s a w => ∃ (ρ : Nat → Nat) (χ : Nat → Nat) (a182 : Option Addr) (c183 : Nat) (a186 : Option Addr) (c187 : Nat), I3 s.1 s.2.1 s.2.2 ∧ St Tryd.f17.ntmps ⟨[(0, V (.string (bs s_))), (3, V (.slice a182 s.1.length c183)), (5, I end_116), (6, V (.slice a186 s.2.1.length c187)), (7, B remark_121), (8, I i_149), (9, I s.2.2)], []⟩ ρ a w χ ∧ Old w0 χ0 w χ ∧ OS (tSlice tRef05_Token) 83 w χ 1003 a182 s.1 c183 ∧ OS tRef05_Token 85 w χ 1007 a186 s.2.1 c187) (fun s => μ3 s.1 s.2.1 s.2.2) (⟨out_141, row_145, i_149⟩) ?_ ?_
                        · exact ⟨ρ, _, a142, c143, a146, c147, hm0, hS.sel [0, 3, 5, 6, 7, 8, 9] [] (by kernel_rfl), hO, h144, h148⟩
                        · rintro ⟨out_181, row_185, k_189⟩ a w206 ⟨ρ, χ205, a182, c183, a186, c187, hI, hS, hO, h184, h188⟩
                          replace hm := hm out_181 row_185 k_189 hI
                          clear hI hm0
                          refine wseq ?_
                          refine wcut (fun a w => ∃ (ρ : Nat → Nat) (χ : Nat → Nat) (out_190 : List (List Ref05_Token)) (row_194 : List Ref05_Token) (x_198 : Bool) (a191 : Option Addr) (c192 : Nat) (a195 : Option Addr) (c196 : Nat), VC17_J7 s_ I2 μ2 out_141 row_145 i_149 I3 μ3 out_181 row_185 k_189 out_190 row_194 x_198 ∧ St Tryd.f17.ntmps ⟨[(0, V (.string (bs s_))), (3, V (.slice a191 out_190.length c192)), (5, I end_116), (6, V (.slice a195 row_194.length c196)), (7, B remark_121), (8, I i_149), (9, I k_189), (70, B x_198)], []⟩ ρ a w χ ∧ Old w0 χ0 w χ ∧ OS (tSlice tRef05_Token) 83 w χ 1003 a191 out_190 c192 ∧ OS tRef05_Token 85 w χ 1007 a195 row_194 c196) ?_ ?_
                          · refine region ?_
                            refine opsP T hS 4 (sp := []) (ks := [0, 3, 5, 6, 7, 8, 9, 64]) (bs := []) (sy' := ⟨[(0, V (.string (bs s_))), (3, V (.slice a182 out_181.length c183)), (5, I end_116), (6, V (.slice a186 row_185.length c187)), (7, B remark_121), (8, I i_149), (9, I k_189), (64, B (decide (k_189 < end_116)))], []⟩) (by kernel_rfl) ?_
                            intro a hS
                            rcases Bool.eq_false_or_eq_true (decide (k_189 < end_116)) with hb | hb
                            · replace hS := hS.lit (t := 64) (by kernel_rfl) hb
                              replace hm := hm.1 hb
                              refine opsP T hS 2 (sp := []) (ks := [0, 3, 5, 6, 7, 8, 9, 64, 65, 66]) (bs := []) (sy' := ⟨[(0, V (.string (bs s_))), (3, V (.slice a182 out_181.length c183)), (5, I end_116), (6, V (.slice a186 row_185.length c187)), (7, B remark_121), (8, I i_149), (9, I k_189), (64, B true), (65, V (.string (bs s_))), (66, I k_189)], []⟩) (by kernel_rfl) ?_
                              intro a hS
                              obtain ⟨hq, hm⟩ := hm
                              refine op1 (sindex (k := .i64) T hS (by kernel_rfl) (by kernel_rfl) (by kernel_rfl) (by kernel_rfl) (by kernel_rfl) hq.1 hq.2 ?_)
                              intro a hS
                              clear hq
                              refine op1 (call hS (by kernel_rfl) (by kernel_rfl) hb55 (by kernel_rfl) (fun _ _ => rfl) (k55 _ _ ((gi s_ k_189).toNat : Int)) ?_)
                              intro v199 a w200 χ201 hE hp hS
                              replace hO := hO.mv hE rfl rfl
                              replace h184 := h184.mv hE rfl rfl
                              replace h188 := h188.mv hE rfl rfl
                              clear hE
                              obtain ⟨r202, hr⟩ : ∃ r, ref05_gap ((gi s_ k_189).toNat : Int) = r := ⟨_, rfl⟩
                              replace hm := hm r202 hr
                              rw [hr] at hp
                              clear hr
                              subst hp
                              refine endP T hS (sp := []) (ks := [0, 3, 5, 6, 7, 8, 9, 65, 66, 67, 68, 69, 70]) (bs := []) (sy' := ⟨[(0, V (.string (bs s_))), (3, V (.slice a182 out_181.length c183)), (5, I end_116), (6, V (.slice a186 row_185.length c187)), (7, B remark_121), (8, I i_149), (9, I k_189), (65, V (.string (bs s_))), (66, I k_189), (67, V (.int .u8 ((gi s_ k_189).toNat : Int))), (68, B r202), (69, B (!r202)), (70, B (!r202))], []⟩) (by kernel_rfl) ?_
                              intro a hS
                              exact ⟨ρ, _, out_181, row_185, (!r202), a182, c183, a186, c187, hm, hS.sel [0, 3, 5, 6, 7, 8, 9, 70] [] (by kernel_rfl), hO, h184, h188⟩
                            · replace hS := hS.lit (t := 64) (by kernel_rfl) hb
                              replace hm := hm.2 hb
                              refine endP T hS (sp := []) (ks := [0, 3, 5, 6, 7, 8, 9, 70]) (bs := []) (sy' := ⟨[(0, V (.string (bs s_))), (3, V (.slice a182 out_181.length c183)), (5, I end_116), (6, V (.slice a186 row_185.length c187)), (7, B remark_121), (8, I i_149), (9, I k_189), (70, B false)], []⟩) (by kernel_rfl) ?_
                              intro a hS
                              exact ⟨ρ, _, out_181, row_185, false, a182, c183, a186, c187, hm, hS.sel [0, 3, 5, 6, 7, 8, 9, 70] [] (by kernel_rfl), hO, h184, h188⟩
                          · rintro a w204 ⟨ρ, χ203, out_190, row_194, x_198, a191, c192, a195, c196, hm, hS, hO, h193, h197⟩
                            unfold VC17_J7 at hm
                            refine wcond hS (b := x_198) (by kernel_rfl) (fun hb => ?_) (fun hb => ?_)
                            · replace hm := hm.1 hb
                              refine wskip ?_
                              refine wblock ?_
                              refine region (endP T hS (sp := []) (ks := [0, 3, 5, 6, 7, 8, 9]) (bs := []) (sy' := ⟨[(0, V (.string (bs s_))), (3, V (.slice a191 out_190.length c192)), (5, I end_116), (6, V (.slice a195 row_194.length c196)), (7, B remark_121), (8, I i_149), (9, I (IntKind.i64.wrap (k_189 + 1)))], []⟩) (by kernel_rfl) ?_)
                              intro a hS
                              exact ⟨⟨out_190, row_194, IntKind.i64.wrap (k_189 + 1)⟩, ⟨ρ, _, a191, c192, a195, c196, hm.1, hS.sel [0, 3, 5, 6, 7, 8, 9] [] (by kernel_rfl), hO, h193, h197⟩, hm.2⟩
                            · replace hm := hm.2 hb
                              refine wexit (by rfl) ?_
                              exact ⟨ρ, _, out_190, row_194, k_189, a191, c192, a195, c196, hm, hS.sel [0, 3, 5, 6, 7, 8, 9] [] (by kernel_rfl), hO, h193, h197⟩
                      · rintro a w208 ⟨ρ, χ207, out_163, row_167, k_171, a164, c165, a168, c169, hm, hS, hO, h166, h170⟩
                        unfold VC17_J6 at hm
                        refine regO ?_
                        refine opsP T hS 8 (sp := []) (ks := [0, 3, 5, 6, 7, 9, 73, 76, 77, 78, 79, 80]) (bs := []) (sy' := ⟨[(0, V (.string (bs s_))), (3, V (.slice a164 out_163.length c165)), (5, I end_116), (6, V (.slice a168 row_167.length c169)), (7, B remark_121), (9, I k_171), (73, V (.slice a168 row_167.length c169)), (76, I (IntKind.i64.wrap (((out_163.length : Nat) : Int) + 1))), (77, I i_149), (78, V (.string (bs s_))), (79, I i_149), (80, I k_171)], []⟩) (by kernel_rfl) ?_
                        intro a hS
                        obtain ⟨hq, hm⟩ := hm
                        refine op1 (sslice2 (kl := .i64) (kh := .i64) (s := s_) T hS (by kernel_rfl) (by kernel_rfl) (by kernel_rfl) (by kernel_rfl) (by kernel_rfl) (by kernel_rfl) hq.1 hq.2.1 hq.2.2 ?_)
                        intro a hS
                        clear hq
                        refine opsP T hS 1 (sp := []) (ks := [0, 3, 5, 6, 7, 9, 73, 82]) (bs := []) (sy' := ⟨[(0, V (.string (bs s_))), (3, V (.slice a164 out_163.length c165)), (5, I end_116), (6, V (.slice a168 row_167.length c169)), (7, B remark_121), (9, I k_171), (73, V (.slice a168 row_167.length c169)), (82, V (.agg #[.int .i64 (IntKind.i64.wrap (((out_163.length : Nat) : Int) + 1)), .int .i64 i_149, .string (bs ((s_.take k_171.toNat).drop i_149.toNat))]))], []⟩) (by kernel_rfl) ?_
                        intro a hS
                        refine op1 (lit (E := 85) (col := 0) (T := tRef05_Token) (vals := [.agg #[.int .i64 (IntKind.i64.wrap (((out_163.length : Nat) : Int) + 1)), .int .i64 i_149, .string (bs ((s_.take k_171.toNat).drop i_149.toNat))]]) (ys := [(⟨IntKind.i64.wrap (((out_163.length : Nat) : Int) + 1), i_149, ((s_.take k_171.toNat).drop i_149.toNat)⟩ : Ref05_Token)]) T hS (by kernel_rfl) (by kernel_rfl) (by kernel_rfl) (by kernel_rfl) (by exact ⟨rfl, trivial⟩) rfl (by kernel_rfl) (by kernel_rfl) (by kernel_rfl) (by kernel_rfl) ?_)
                        intro b172 a w173 χ174 hE h175 hN hS
                        clear hN
                        replace hO := hO.mv hE rfl rfl
                        replace h166 := h166.mv hE rfl rfl
                        replace h170 := h170.mv hE rfl rfl
                        clear hE
                        replace h175 := h175.rs0
                        obtain ⟨hq, hm⟩ := hm
                        obtain ⟨news, hN⟩ := h175.src
                        refine op1 (append (E := 85) (T := tRef05_Token) (col := 1007) (xs := row_167) T hS (by kernel_rfl) (by kernel_rfl) (by kernel_rfl) (by kernel_rfl) h170 hN (by kernel_rfl) (by kernel_rfl) (by kernel_rfl) (by kernel_rfl) hq ?_)
                        intro a179 c180 a w176 χ177 hE h178 hS
                        clear hq hN
                        clear h170
                        replace hO := hO.mv hE rfl rfl
                        replace h166 := h166.mv hE rfl rfl
                        replace h175 := h175.mv hE rfl
                        clear hE
                        refine endP T hS (sp := []) (ks := [0, 3, 5, 6, 7, 9]) (bs := []) (sy' := ⟨[(0, V (.string (bs s_))), (3, V (.slice a164 out_163.length c165)), (5, I end_116), (6, V (.slice a179 (row_167 ++ [(⟨IntKind.i64.wrap (((out_163.length : Nat) : Int) + 1), i_149, ((s_.take k_171.toNat).drop i_149.toNat)⟩ : Ref05_Token)]).length c180)), (7, B remark_121), (9, I k_171)], []⟩) (by kernel_rfl) ?_
                        intro a hS
                        refine region (endP T hS (sp := []) (ks := [0, 3, 5, 6, 7, 8]) (bs := []) (sy' := ⟨[(0, V (.string (bs s_))), (3, V (.slice a164 out_163.length c165)), (5, I end_116), (6, V (.slice a179 (row_167 ++ [(⟨IntKind.i64.wrap (((out_163.length : Nat) : Int) + 1), i_149, ((s_.take k_171.toNat).drop i_149.toNat)⟩ : Ref05_Token)]).length c180)), (7, B remark_121), (8, I k_171)], []⟩) (by kernel_rfl) ?_)
                        intro a hS
                        exact ⟨ρ, _, out_163, row_167 ++ [(⟨IntKind.i64.wrap (((out_163.length : Nat) : Int) + 1), i_149, ((s_.take k_171.toNat).drop i_149.toNat)⟩ : Ref05_Token)], k_171, a164, c165, a179, c180, hm, hS.sel [0, 3, 5, 6, 7, 8] [] (by kernel_rfl), hO, h166, h178⟩
                  · rintro a w210 ⟨ρ, χ209, out_150, row_154, i_158, a151, c152, a155, c156, hm, hS, hO, h153, h157⟩
                    unfold VC17_J5 at hm
                    refine region (endP T hS (sp := []) (ks := [0, 3, 5, 6, 7, 8]) (bs := []) (sy' := ⟨[(0, V (.string (bs s_))), (3, V (.slice a151 out_150.length c152)), (5, I end_116), (6, V (.slice a155 row_154.length c156)), (7, B remark_121), (8, I (IntKind.i64.wrap (i_158 + 1)))], []⟩) (by kernel_rfl) ?_)
                    intro a hS
                    exact ⟨⟨out_150, row_154, IntKind.i64.wrap (i_158 + 1)⟩, ⟨ρ, _, a151, c152, a155, c156, hm.1, hS.sel [0, 3, 5, 6, 7, 8] [] (by kernel_rfl), hO, h153, h157⟩, hm.2⟩
                · replace hm := hm.2 hb
                  refine wexit (by rfl) ?_
                  exact ⟨ρ, _, out_141, row_145, a142, c143, a146, c147, hm, hS.sel [0, 3, 5, 6] [] (by kernel_rfl), hO, h144, h148⟩
            · rintro a w214 ⟨ρ, χ213, out_122, row_126, a123, c124, a127, c128, hm, hS, hO, h125, h129⟩
              unfold VC17_J4 at hm
              refine regO ?_
              refine opsP T hS 2 (sp := []) (ks := [0, 3, 5, 86, 87]) (bs := []) (sy' := ⟨[(0, V (.string (bs s_))), (3, V (.slice a123 out_122.length c124)), (5, I end_116), (86, V (.slice a123 out_122.length c124)), (87, V (.slice a127 row_126.length c128))], []⟩) (by kernel_rfl) ?_
              intro a hS
              obtain ⟨χ130, hE, hF⟩ := h129.freeze (by decide)
              replace hS := hS.ev hE (xone_box (by kernel_rfl))
              replace hO := hO.mv hE rfl rfl
              replace h125 := h125.mv hE rfl rfl
              have h131 := hF; clear hE hF
              refine op1 (lit (E := 83) (col := 0) (T := (tSlice tRef05_Token)) (vals := [.slice a127 row_126.length c128]) (ys := [row_126]) T hS (by kernel_rfl) (by kernel_rfl) (by kernel_rfl) (by kernel_rfl) (by exact ⟨⟨a127, c128, rfl, h131⟩, trivial⟩) rfl (by kernel_rfl) (by kernel_rfl) (by kernel_rfl) (by kernel_rfl) ?_)
              intro b132 a w133 χ134 hE h135 hN hS
              clear hN
              replace hO := hO.mv hE rfl rfl
              replace h125 := h125.mv hE rfl rfl
              replace h131 := h131.mv hE rfl
              clear hE
              replace h135 := h135.rs0
              obtain ⟨hq, hm⟩ := hm
              obtain ⟨news, hN⟩ := h135.src
              refine op1 (append (E := 83) (T := (tSlice tRef05_Token)) (col := 1003) (xs := out_122) T hS (by kernel_rfl) (by kernel_rfl) (by kernel_rfl) (by kernel_rfl) h125 hN (by kernel_rfl) (by kernel_rfl) (by kernel_rfl) (by kernel_rfl) hq ?_)
              intro a139 c140 a w136 χ137 hE h138 hS
              clear hq hN
              clear h125
              replace hO := hO.mv hE rfl rfl
              replace h131 := h131.mv hE rfl
              replace h135 := h135.mv hE rfl
              clear hE
              refine endP T hS (sp := []) (ks := [0, 3, 5]) (bs := []) (sy' := ⟨[(0, V (.string (bs s_))), (3, V (.slice a139 (out_122 ++ [row_126]).length c140)), (5, I end_116)], []⟩) (by kernel_rfl) ?_
              intro a hS
              refine region (endP T hS (sp := []) (ks := [0, 3, 4]) (bs := []) (sy' := ⟨[(0, V (.string (bs s_))), (3, V (.slice a139 (out_122 ++ [row_126]).length c140)), (4, I (IntKind.i64.wrap (end_116 + 1)))], []⟩) (by kernel_rfl) ?_)
              intro a hS
              exact ⟨⟨out_122 ++ [row_126], IntKind.i64.wrap (end_116 + 1)⟩, ⟨ρ, _, a139, c140, hm.1, hS.sel [0, 3, 4] [] (by kernel_rfl), hO, h138⟩, hm.2⟩
      · replace hm := hm.2 hb
        refine wexit (by rfl) ?_
        exact ⟨ρ, _, out_107, a108, c109, hm, hS.sel [3] [] (by kernel_rfl), hO, h110⟩
  · rintro a w236 ⟨ρ, χ235, out_101, a102, c103, hm, hS, hO, h104⟩
    unfold VC17_J1 at hm
    refine regP T hS (sp := []) (ks := [2]) (bs := []) (sy' := ⟨[(2, V (.slice a102 out_101.length c103))], []⟩) (by kernel_rfl) ?_
    intro a hS
    refine wret ?_
    obtain ⟨χ105, hE, hF⟩ := h104.freeze (by decide)
    replace hS := hS.ev hE (xone_box (by kernel_rfl))
    replace hO := hO.mv hE rfl rfl
    have h106 := hF; clear hE hF
    exact fin T hS hO (fun c => c) rfl (r := [.slice a102 out_101.length c103]) (by kernel_rfl) (fun χ' hM hC => ⟨out_101, hm, a102, c103, rfl, h106.m0 hM⟩)
theorem C17 (k55 : S55) (v : ∀ (s_ : List UInt8), len1 s_ → VC17 s_ (fun r => r = ref05_Lines s_)) : S17 := by
  intro w χ s_    hp 
  refine (W17 k55 w χ s_    _ (v s_ hp)).mono ?_
  rintro _ _ _ _ ⟨r, rfl, h⟩
  exact h
def S18 : Prop := ∀ (w : World) (χ : Nat → Nat) (a_ : List (List Ref05_Token)) (b_ : List (List Ref05_Token)) (a1 : Option Addr) (c1 : Nat) (a2 : Option Addr) (c2 : Nat), RS (tSlice tRef05_Token) w χ a1 a_ c1 → RS (tSlice tRef05_Token) w χ a2 b_ c2 → Ret Tryd.prog 18 #[.slice a1 a_.length c1, .slice a2 b_.length c2] xnone w χ (fun w χ' v => v = .bool (ref05_Same a_ b_))
theorem hb18 : hasBody Tryd.prog 18 = true := by kernel_rfl
/-- replevin/replevinref05.Same -/
theorem W18 (w0 : World) (χ0 : Nat → Nat) (a_ : List (List Ref05_Token)) (b_ : List (List Ref05_Token)) (a1 : Option Addr) (c1 : Nat) (a2 : Option Addr) (c2 : Nat) (Q : Bool → Prop) (hm : VC18 a_ b_ Q) (h1 : RS (tSlice tRef05_Token) w0 χ0 a1 a_ c1) (h2 : RS (tSlice tRef05_Token) w0 χ0 a2 b_ c2) :
    Ret Tryd.prog 18 #[.slice a1 a_.length c1, .slice a2 b_.length c2] xnone w0 χ0 (fun w χ' v => ∃ r, Q r ∧ v = .bool r) := by
  unfold VC18 at hm
  replace hm := hm (h1.sm (by kernel_rfl))
  replace hm := hm (h2.sm (by kernel_rfl))
  refine enter Tryd.func18 rfl (vals := [.slice a1 a_.length c1, .slice a2 b_.length c2]) (by kernel_rfl) ?_
  intro ρ a hS hO hM
  replace h1 := h1.m0 hM
  replace h2 := h2.m0 hM
  clear hM
  refine regP T hS (sp := []) (ks := [0, 1]) (bs := []) (sy' := ⟨[(0, V (.slice a1 a_.length c1)), (1, V (.slice a2 b_.length c2))], []⟩) (by kernel_rfl) ?_
  intro a hS
  refine wseq ?_
  refine regP T hS (sp := []) (ks := [0, 1, 11]) (bs := []) (sy' := ⟨[(0, V (.slice a1 a_.length c1)), (1, V (.slice a2 b_.length c2)), (11, B (((a_.length : Nat) : Int) != ((b_.length : Nat) : Int)))], []⟩) (by kernel_rfl) ?_
  intro a hS
  refine wcond hS (b := (((a_.length : Nat) : Int) != ((b_.length : Nat) : Int))) (by kernel_rfl) (fun hb => ?_) (fun hb => ?_)
  · replace hm := hm.1 hb
    refine regP T hS (sp := []) (ks := [4]) (bs := []) (sy' := ⟨[(4, B false)], []⟩) (by kernel_rfl) ?_
    intro a hS
    refine wret ?_
    exact fin T hS hO (fun c => c) rfl (r := [.bool false]) (by kernel_rfl) (fun χ' hM hC => ⟨false, hm, rfl⟩)
  · replace hm := hm.2 hb
    refine wskip ?_
    refine wcut (fun a w => ∃ (ρ : Nat → Nat) (χ : Nat → Nat), VC18_J1 Q ∧ St Tryd.f18.ntmps ⟨[], []⟩ ρ a w χ ∧ Old w0 χ0 w χ) ?_ ?_
    · refine regP T hS (sp := []) (ks := [0, 1, 5]) (bs := []) (sy' := ⟨[(0, V (.slice a1 a_.length c1)), (1, V (.slice a2 b_.length c2)), (5, I 0)], []⟩) (by kernel_rfl) ?_
      intro a hS
      refine wblock ?_
      obtain ⟨I1, μ1, hm0, hm⟩ := hm
      refine wloop (σ := Int) (fun s a w => ∃ (ρ : Nat → Nat) (χ : Nat → Nat), I1 s ∧ St Tryd.f18.ntmps ⟨[(0, V (.slice a1 a_.length c1)), (1, V (.slice a2 b_.length c2)), (5, I s)], []⟩ ρ a w χ ∧ Old w0 χ0 w χ ∧ RS (tSlice tRef05_Token) w χ a1 a_ c1 ∧ RS (tSlice tRef05_Token) w χ a2 b_ c2) (fun s => μ1 s) (0) ?_ ?_
      · exact ⟨ρ, _, hm0, hS.sel [0, 1, 5] [] (by kernel_rfl), hO, h1, h2⟩
      · rintro i_103 a w154 ⟨ρ, χ153, hI, hS, hO, h101, h102⟩
        replace hm := hm i_103 hI
        clear hI hm0
        refine wseq ?_
        refine regP T hS (sp := []) (ks := [0, 1, 5, 15]) (bs := []) (sy' := ⟨[(0, V (.slice a1 a_.length c1)), (1, V (.slice a2 b_.length c2)), (5, I i_103), (15, B (decide (i_103 < ((a_.length : Nat) : Int))))], []⟩) (by kernel_rfl) ?_
        intro a hS
        refine wcond hS (b := decide (i_103 < ((a_.length : Nat) : Int))) (by kernel_rfl) (fun hb => ?_) (fun hb => ?_)
        · replace hm := hm.1 hb
          refine wskip ?_
          refine wcut (fun a w => ∃ (ρ : Nat → Nat) (χ : Nat → Nat), VC18_J2 I1 μ1 i_103 ∧ St Tryd.f18.ntmps ⟨[(0, V (.slice a1 a_.length c1)), (1, V (.slice a2 b_.length c2)), (5, I i_103)], []⟩ ρ a w χ ∧ Old w0 χ0 w χ ∧ RS (tSlice tRef05_Token) w χ a1 a_ c1 ∧ RS (tSlice tRef05_Token) w χ a2 b_ c2) ?_ ?_
          · refine wblock ?_
            refine wseq ?_
            refine drawnSX [] mixed hS ?_
            intro w106 χ107 hS hE hD hH
            replace hO := hO.mv hE rfl rfl
            replace h101 := h101.mv hE rfl
            replace h102 := h102.mv hE rfl
            clear hE
            refine take T [0, 1, 5, 6] [] [0, 1, 5, 18, 19, 23, 24] hS (by kernel_rfl) (by kernel_rfl) (by kernel_rfl) hH (listed' := #[true, true, false, false, false, true, true, false, false, false, false]) (fuel := 7) (sy' := ⟨[(0, V (.slice a1 a_.length c1)), (1, V (.slice a2 b_.length c2)), (5, I i_103), (18, V (.slice a1 a_.length c1)), (19, I i_103), (23, V (.slice a2 b_.length c2)), (24, I i_103)], []⟩) (by kernel_rfl) (by rfl) ?_
            intro a hS
            obtain ⟨hq, hm⟩ := hm
            refine dindex (e := 83) (k := .i64) T 2 hS (by kernel_rfl) (by kernel_rfl) (by kernel_rfl) (by rfl) (by kernel_rfl) hH (by kernel_rfl) (by kernel_rfl) h101 (by kernel_rfl) (by kernel_rfl) hq.1 hq.2 ?_
            intro A108 a h109 hS
            clear hq
            have h109b := h109.here
            refine dload1 T 3 hS (by kernel_rfl) (by kernel_rfl) (by kernel_rfl) (by rfl) (by kernel_rfl) hH (by kernel_rfl) h109 h109b rfl (by kernel_rfl) ?_
            intro v110 a hv hS
            obtain ⟨a111, c112, hv, h113⟩ := hv
            cases hv
            replace hm := hm (h113.sm (by kernel_rfl))
            refine take T [4] [] [0, 1, 5, 22, 23, 24] hS (by kernel_rfl) (by kernel_rfl) (by kernel_rfl) hH (listed' := #[true, true, true, true, true, true, true, false, false, false, false]) (fuel := 4) (sy' := ⟨[(0, V (.slice a1 a_.length c1)), (1, V (.slice a2 b_.length c2)), (5, I i_103), (22, I (((gi a_ i_103).length : Nat) : Int)), (23, V (.slice a2 b_.length c2)), (24, I i_103)], []⟩) (by kernel_rfl) (by rfl) ?_
            intro a hS
            obtain ⟨hq, hm⟩ := hm
            refine dindex (e := 83) (k := .i64) T 7 hS (by kernel_rfl) (by kernel_rfl) (by kernel_rfl) (by rfl) (by kernel_rfl) hH (by kernel_rfl) (by kernel_rfl) h102 (by kernel_rfl) (by kernel_rfl) hq.1 hq.2 ?_
            intro A114 a h115 hS
            clear hq
            have h115b := h115.here
            refine dload1 T 8 hS (by kernel_rfl) (by kernel_rfl) (by kernel_rfl) (by rfl) (by kernel_rfl) hH (by kernel_rfl) h115 h115b rfl (by kernel_rfl) ?_
            intro v116 a hv hS
            obtain ⟨a117, c118, hv, h119⟩ := hv
            cases hv
            replace hm := hm (h119.sm (by kernel_rfl))
            refine take T [9, 10] [] [0, 1, 5, 28] hS (by kernel_rfl) (by kernel_rfl) (by kernel_rfl) hH (listed' := #[true, true, true, true, true, true, true, true, true, true, true]) (fuel := 0) (sy' := ⟨[(0, V (.slice a1 a_.length c1)), (1, V (.slice a2 b_.length c2)), (5, I i_103), (28, B ((((gi a_ i_103).length : Nat) : Int) != (((gi b_ i_103).length : Nat) : Int)))], []⟩) (by kernel_rfl) (by rfl) ?_
            intro a hS
            refine drawnDone (by kernel_rfl) ?_
            clear hD hH
            replace hS := hS.sel [0, 1, 5, 28] [] (sy' := ⟨[(0, V (.slice a1 a_.length c1)), (1, V (.slice a2 b_.length c2)), (5, I i_103), (28, B ((((gi a_ i_103).length : Nat) : Int) != (((gi b_ i_103).length : Nat) : Int)))], []⟩) (by kernel_rfl)
            refine wcond hS (b := ((((gi a_ i_103).length : Nat) : Int) != (((gi b_ i_103).length : Nat) : Int))) (by kernel_rfl) (fun hb => ?_) (fun hb => ?_)
            · replace hm := hm.1 hb
              refine regP T hS (sp := []) (ks := [4]) (bs := []) (sy' := ⟨[(4, B false)], []⟩) (by kernel_rfl) ?_
              intro a hS
              refine wret ?_
              exact fin T hS hO (fun c => c) rfl (r := [.bool false]) (by kernel_rfl) (fun χ' hM hC => ⟨false, hm, rfl⟩)
            · replace hm := hm.2 hb
              refine wskip ?_
              refine regP T hS (sp := []) (ks := [0, 1, 5, 6]) (bs := []) (sy' := ⟨[(0, V (.slice a1 a_.length c1)), (1, V (.slice a2 b_.length c2)), (5, I i_103), (6, I 0)], []⟩) (by kernel_rfl) ?_
              intro a hS
              refine wblock ?_
              obtain ⟨I2, μ2, hm0, hm⟩ := hm
              refine wloop (σ := Int) (fun s a w => ∃ (ρ : Nat → Nat) (χ : Nat → Nat), I2 s ∧ St Tryd.f18.ntmps ⟨[(0, V (.slice a1 a_.length c1)), (1, V (.slice a2 b_.length c2)), (5, I i_103), (6, I s)], []⟩ ρ a w χ ∧ Old w0 χ0 w χ ∧ RS (tSlice tRef05_Token) w χ a1 a_ c1 ∧ RS (tSlice tRef05_Token) w χ a2 b_ c2) (fun s => μ2 s) (0) ?_ ?_
              · exact ⟨ρ, _, hm0, hS.sel [0, 1, 5, 6] [] (by kernel_rfl), hO, h101, h102⟩
              · rintro k_122 a w150 ⟨ρ, χ149, hI, hS, hO, h120, h121⟩
                replace hm := hm k_122 hI
                clear hI hm0
                refine wseq ?_
                refine regO ?_
                refine opsP T hS 3 (sp := []) (ks := [0, 1, 5, 6, 29, 30, 31]) (bs := []) (sy' := ⟨[(0, V (.slice a1 a_.length c1)), (1, V (.slice a2 b_.length c2)), (5, I i_103), (6, I k_122), (29, I k_122), (30, V (.slice a1 a_.length c1)), (31, I i_103)], []⟩) (by kernel_rfl) ?_
                intro a hS
                obtain ⟨hq, hm⟩ := hm
                refine op1 (index (e := 83) (k := .i64) T hS (by kernel_rfl) (by kernel_rfl) (by kernel_rfl) (by kernel_rfl) h120 (by kernel_rfl) (by kernel_rfl) hq.1 hq.2 ?_)
                intro A123 a h124 hS
                clear hq
                refine op1 (load1 T hS (by kernel_rfl) (by kernel_rfl) (by kernel_rfl) h124 rfl (by kernel_rfl) ?_)
                intro v125 a hv hS
                obtain ⟨a126, c127, hv, h128⟩ := hv
                cases hv
                replace hm := hm (h128.sm (by kernel_rfl))
                refine endP T hS (sp := []) (ks := [0, 1, 5, 6, 35]) (bs := []) (sy' := ⟨[(0, V (.slice a1 a_.length c1)), (1, V (.slice a2 b_.length c2)), (5, I i_103), (6, I k_122), (35, B (decide (k_122 < (((gi a_ i_103).length : Nat) : Int))))], []⟩) (by kernel_rfl) ?_
                intro a hS
                refine wcond hS (b := decide (k_122 < (((gi a_ i_103).length : Nat) : Int))) (by kernel_rfl) (fun hb => ?_) (fun hb => ?_)
                · replace hm := hm.1 hb
                  refine wskip ?_
                  refine wseq ?_
                  refine wblock ?_
                  refine drawnSX [] mixed hS ?_
                  intro w129 χ130 hS hE hD hH
                  replace hO := hO.mv hE rfl rfl
                  replace h120 := h120.mv hE rfl
                  replace h121 := h121.mv hE rfl
                  clear hE
                  refine take T [0, 1, 4, 7, 8, 11] [] [0, 1, 5, 6, 38, 39, 42, 45, 46, 49] hS (by kernel_rfl) (by kernel_rfl) (by kernel_rfl) hH (listed' := #[true, true, false, false, true, false, false, true, true, false, false, true, false, false, false]) (fuel := 9) (sy' := ⟨[(0, V (.slice a1 a_.length c1)), (1, V (.slice a2 b_.length c2)), (5, I i_103), (6, I k_122), (38, V (.slice a1 a_.length c1)), (39, I i_103), (42, I k_122), (45, V (.slice a2 b_.length c2)), (46, I i_103), (49, I k_122)], []⟩) (by kernel_rfl) (by rfl) ?_
                  intro a hS
                  obtain ⟨hq, hm⟩ := hm
                  refine dindex (e := 83) (k := .i64) T 2 hS (by kernel_rfl) (by kernel_rfl) (by kernel_rfl) (by rfl) (by kernel_rfl) hH (by kernel_rfl) (by kernel_rfl) h120 (by kernel_rfl) (by kernel_rfl) hq.1 hq.2 ?_
                  intro A131 a h132 hS
                  clear hq
                  have h132b := h132.here
                  refine dload1 T 3 hS (by kernel_rfl) (by kernel_rfl) (by kernel_rfl) (by rfl) (by kernel_rfl) hH (by kernel_rfl) h132 h132b rfl (by kernel_rfl) ?_
                  intro v133 a hv hS
                  obtain ⟨a134, c135, hv, h136⟩ := hv
                  cases hv
                  replace hm := hm (h136.sm (by kernel_rfl))
                  obtain ⟨hq, hm⟩ := hm
                  refine dindex (e := 85) (k := .i64) T 5 hS (by kernel_rfl) (by kernel_rfl) (by kernel_rfl) (by rfl) (by kernel_rfl) hH (by kernel_rfl) (by kernel_rfl) h136 (by kernel_rfl) (by kernel_rfl) hq.1 hq.2 ?_
                  intro A137 a h138 hS
                  clear hq
                  have h138b := h138.here
                  refine dloadA T 6 hS (by kernel_rfl) (by kernel_rfl) (by kernel_rfl) (by rfl) (by kernel_rfl) hH (by kernel_rfl) h138 h138b (by kernel_rfl) (by kernel_rfl) ?_
                  intro v139 a hv hS
                  subst hv
                  obtain ⟨hq, hm⟩ := hm
                  refine dindex (e := 83) (k := .i64) T 9 hS (by kernel_rfl) (by kernel_rfl) (by kernel_rfl) (by rfl) (by kernel_rfl) hH (by kernel_rfl) (by kernel_rfl) h121 (by kernel_rfl) (by kernel_rfl) hq.1 hq.2 ?_
                  intro A140 a h141 hS
                  clear hq
                  have h141b := h141.here
                  refine dload1 T 10 hS (by kernel_rfl) (by kernel_rfl) (by kernel_rfl) (by rfl) (by kernel_rfl) hH (by kernel_rfl) h141 h141b rfl (by kernel_rfl) ?_
                  intro v142 a hv hS
                  obtain ⟨a143, c144, hv, h145⟩ := hv
                  cases hv
                  replace hm := hm (h145.sm (by kernel_rfl))
                  obtain ⟨hq, hm⟩ := hm
                  refine dindex (e := 85) (k := .i64) T 12 hS (by kernel_rfl) (by kernel_rfl) (by kernel_rfl) (by rfl) (by kernel_rfl) hH (by kernel_rfl) (by kernel_rfl) h145 (by kernel_rfl) (by kernel_rfl) hq.1 hq.2 ?_
                  intro A146 a h147 hS
                  clear hq
                  have h147b := h147.here
                  refine dloadA T 13 hS (by kernel_rfl) (by kernel_rfl) (by kernel_rfl) (by rfl) (by kernel_rfl) hH (by kernel_rfl) h147 h147b (by kernel_rfl) (by kernel_rfl) ?_
                  intro v148 a hv hS
                  subst hv
                  refine dstructEq (op := .neq) (xs := [.int .i64 ((gi (gi a_ i_103) k_122).Line), .int .i64 ((gi (gi a_ i_103) k_122).At), .string (bs ((gi (gi a_ i_103) k_122).Text))]) (ys := [.int .i64 ((gi (gi b_ i_103) k_122).Line), .int .i64 ((gi (gi b_ i_103) k_122).At), .string (bs ((gi (gi b_ i_103) k_122).Text))]) (r := (((gi (gi a_ i_103) k_122).Line) == ((gi (gi b_ i_103) k_122).Line) && (((gi (gi a_ i_103) k_122).At) == ((gi (gi b_ i_103) k_122).At) && (((gi (gi a_ i_103) k_122).Text) == ((gi (gi b_ i_103) k_122).Text) && true)))) (b := (!(((gi (gi a_ i_103) k_122).Line) == ((gi (gi b_ i_103) k_122).Line) && (((gi (gi a_ i_103) k_122).At) == ((gi (gi b_ i_103) k_122).At) && (((gi (gi a_ i_103) k_122).Text) == ((gi (gi b_ i_103) k_122).Text) && true))))) 14 T hS (by kernel_rfl) (by kernel_rfl) (by kernel_rfl) (by rfl) (by kernel_rfl) hH (by kernel_rfl) (by kernel_rfl) (by kernel_rfl) (by kernel_rfl) (by kernel_rfl) (by kernel_rfl) ?_
                  intro a hS
                  refine drawnDone (by kernel_rfl) ?_
                  clear hD hH
                  replace hS := hS.sel [0, 1, 5, 6, 52] [] (sy' := ⟨[(0, V (.slice a1 a_.length c1)), (1, V (.slice a2 b_.length c2)), (5, I i_103), (6, I k_122), (52, B (!(((gi (gi a_ i_103) k_122).Line) == ((gi (gi b_ i_103) k_122).Line) && (((gi (gi a_ i_103) k_122).At) == ((gi (gi b_ i_103) k_122).At) && (((gi (gi a_ i_103) k_122).Text) == ((gi (gi b_ i_103) k_122).Text) && true)))))], []⟩) (by kernel_rfl)
                  refine wcond hS (b := (!(((gi (gi a_ i_103) k_122).Line) == ((gi (gi b_ i_103) k_122).Line) && (((gi (gi a_ i_103) k_122).At) == ((gi (gi b_ i_103) k_122).At) && (((gi (gi a_ i_103) k_122).Text) == ((gi (gi b_ i_103) k_122).Text) && true))))) (by kernel_rfl) (fun hb => ?_) (fun hb => ?_)
                  · replace hm := hm.1 hb
                    refine regP T hS (sp := []) (ks := [4]) (bs := []) (sy' := ⟨[(4, B false)], []⟩) (by kernel_rfl) ?_
                    intro a hS
                    refine wret ?_
                    exact fin T hS hO (fun c => c) rfl (r := [.bool false]) (by kernel_rfl) (fun χ' hM hC => ⟨false, hm, rfl⟩)
                  · replace hm := hm.2 hb
                    refine wskip ?_
                    refine region (endP T hS (sp := []) (ks := [0, 1, 5, 6]) (bs := []) (sy' := ⟨[(0, V (.slice a1 a_.length c1)), (1, V (.slice a2 b_.length c2)), (5, I i_103), (6, I (IntKind.i64.wrap (k_122 + 1)))], []⟩) (by kernel_rfl) ?_)
                    intro a hS
                    exact ⟨IntKind.i64.wrap (k_122 + 1), ⟨ρ, _, hm.1, hS.sel [0, 1, 5, 6] [] (by kernel_rfl), hO, h120, h121⟩, hm.2⟩
                · replace hm := hm.2 hb
                  refine wexit (by rfl) ?_
                  exact ⟨ρ, _, hm, hS.sel [0, 1, 5] [] (by kernel_rfl), hO, h120, h121⟩
          · rintro a w152 ⟨ρ, χ151, hm, hS, hO, h104, h105⟩
            unfold VC18_J2 at hm
            refine region (endP T hS (sp := []) (ks := [0, 1, 5]) (bs := []) (sy' := ⟨[(0, V (.slice a1 a_.length c1)), (1, V (.slice a2 b_.length c2)), (5, I (IntKind.i64.wrap (i_103 + 1)))], []⟩) (by kernel_rfl) ?_)
            intro a hS
            exact ⟨IntKind.i64.wrap (i_103 + 1), ⟨ρ, _, hm.1, hS.sel [0, 1, 5] [] (by kernel_rfl), hO, h104, h105⟩, hm.2⟩
        · replace hm := hm.2 hb
          refine wexit (by rfl) ?_
          exact ⟨ρ, _, hm, hS.sel [] [] (by kernel_rfl), hO⟩
    · rintro a w156 ⟨ρ, χ155, hm, hS, hO⟩
      unfold VC18_J1 at hm
      refine regP T hS (sp := []) (ks := [4]) (bs := []) (sy' := ⟨[(4, B true)], []⟩) (by kernel_rfl) ?_
      intro a hS
      refine wret ?_
      exact fin T hS hO (fun c => c) rfl (r := [.bool true]) (by kernel_rfl) (fun χ' hM hC => ⟨true, hm, rfl⟩)
theorem C18 (v : ∀ (a_ : List (List Ref05_Token)) (b_ : List (List Ref05_Token)), VC18 a_ b_ (fun r => r = ref05_Same a_ b_)) : S18 := by
  intro w χ a_ b_ a1 c1 a2 c2   h1 h2
  refine (W18 w χ a_ b_ a1 c1 a2 c2   _ (v a_ b_) h1 h2).mono ?_
  rintro _ _ _ _ ⟨r, rfl, h⟩
  exact h
def S19 : Prop := ∀ (w : World) (χ : Nat → Nat) (l_ : List (List Token_Token)) (a1 : Option Addr) (c1 : Nat), preOf l_ → RS (tSlice tToken_Token) w χ a1 l_ c1 → Ret Tryd.prog 19 #[.slice a1 l_.length c1] xnone w χ (fun w χ' v => ∃ (ra1 : Option Addr) (rc1 : Nat), v = .slice ra1 (law05_Of l_).length rc1 ∧ RS (tSlice tRef05_Token) w χ' ra1 (law05_Of l_) rc1)
theorem hb19 : hasBody Tryd.prog 19 = true := by kernel_rfl
/-- replevin/replevinlaw05.Of -/
theorem W19 (w0 : World) (χ0 : Nat → Nat) (l_ : List (List Token_Token)) (a1 : Option Addr) (c1 : Nat) (Q : (List (List Ref05_Token)) → Prop) (hm : VC19 l_ Q) (h1 : RS (tSlice tToken_Token) w0 χ0 a1 l_ c1) :
    Ret Tryd.prog 19 #[.slice a1 l_.length c1] xnone w0 χ0 (fun w χ' v => ∃ r, Q r ∧ ∃ (ra1 : Option Addr) (rc1 : Nat), v = .slice ra1 r.length rc1 ∧ RS (tSlice tRef05_Token) w χ' ra1 r rc1) := by
  unfold VC19 at hm
  replace hm := hm (h1.sm (by kernel_rfl))
  refine enter Tryd.func19 rfl (vals := [.slice a1 l_.length c1]) (by kernel_rfl) ?_
  intro ρ a hS hO hM
  replace h1 := h1.m0 hM
  clear hM
  refine regP T hS (sp := []) (ks := [0]) (bs := []) (sy' := ⟨[(0, V (.slice a1 l_.length c1))], []⟩) (by kernel_rfl) ?_
  intro a hS
  refine regP T hS (sp := []) (ks := [0, 3]) (bs := []) (sy' := ⟨[(0, V (.slice a1 l_.length c1)), (3, V (.slice none 0 0))], []⟩) (by kernel_rfl) ?_
  intro a hS
  refine wcut (fun a w => ∃ (ρ : Nat → Nat) (χ : Nat → Nat) (out_101 : List (List Ref05_Token)) (a102 : Option Addr) (c103 : Nat), VC19_J1 Q out_101 ∧ St Tryd.f19.ntmps ⟨[(3, V (.slice a102 out_101.length c103))], []⟩ ρ a w χ ∧ Old w0 χ0 w χ ∧ OS (tSlice tRef05_Token) 83 w χ 1003 a102 out_101 c103) ?_ ?_
  · refine regP T hS (sp := []) (ks := [0, 3, 4]) (bs := []) (sy' := ⟨[(0, V (.slice a1 l_.length c1)), (3, V (.slice none 0 0)), (4, I 0)], []⟩) (by kernel_rfl) ?_
    intro a hS
    refine wblock ?_
    obtain ⟨I1, μ1, hm0, hm⟩ := hm
    refine wloop (σ := (List (List Ref05_Token)) × Int) (fun s a w => ∃ (ρ : Nat → Nat) (χ : Nat → Nat) (a109 : Option Addr) (c110 : Nat), I1 s.1 s.2 ∧ St Tryd.f19.ntmps ⟨[(0, V (.slice a1 l_.length c1)), (3, V (.slice a109 s.1.length c110)), (4, I s.2)], []⟩ ρ a w χ ∧ Old w0 χ0 w χ ∧ RS (tSlice tToken_Token) w χ a1 l_ c1 ∧ OS (tSlice tRef05_Token) 83 w χ 1003 a109 s.1 c110) (fun s => μ1 s.1 s.2) (⟨[], 0⟩) ?_ ?_
    · exact ⟨ρ, _, none, 0, hm0, hS.sel [0, 3, 4] [] (by kernel_rfl), hO, h1, (OS.nil _ _ _ _ _)⟩
    · rintro ⟨out_108, i_112⟩ a w174 ⟨ρ, χ173, a109, c110, hI, hS, hO, h107, h111⟩
      replace hm := hm out_108 i_112 hI
      clear hI hm0
      refine wseq ?_
      refine regP T hS (sp := []) (ks := [0, 3, 4, 11]) (bs := []) (sy' := ⟨[(0, V (.slice a1 l_.length c1)), (3, V (.slice a109 out_108.length c110)), (4, I i_112), (11, B (decide (i_112 < ((l_.length : Nat) : Int))))], []⟩) (by kernel_rfl) ?_
      intro a hS
      refine wcond hS (b := decide (i_112 < ((l_.length : Nat) : Int))) (by kernel_rfl) (fun hb => ?_) (fun hb => ?_)
      · replace hm := hm.1 hb
        refine wskip ?_
        refine wseq ?_
        refine wblock ?_
        refine regP T hS (sp := []) (ks := [0, 3, 4, 5]) (bs := []) (sy' := ⟨[(0, V (.slice a1 l_.length c1)), (3, V (.slice a109 out_108.length c110)), (4, I i_112), (5, V (.slice none 0 0))], []⟩) (by kernel_rfl) ?_
        intro a hS
        refine wcut (fun a w => ∃ (ρ : Nat → Nat) (χ : Nat → Nat) (out_114 : List (List Ref05_Token)) (row_118 : List Ref05_Token) (a115 : Option Addr) (c116 : Nat) (a119 : Option Addr) (c120 : Nat), VC19_J2 I1 μ1 out_108 i_112 out_114 row_118 ∧ St Tryd.f19.ntmps ⟨[(0, V (.slice a1 l_.length c1)), (3, V (.slice a115 out_114.length c116)), (4, I i_112), (5, V (.slice a119 row_118.length c120))], []⟩ ρ a w χ ∧ Old w0 χ0 w χ ∧ RS (tSlice tToken_Token) w χ a1 l_ c1 ∧ OS (tSlice tRef05_Token) 83 w χ 1003 a115 out_114 c116 ∧ OS tRef05_Token 85 w χ 1006 a119 row_118 c120) ?_ ?_
        · refine regP T hS (sp := []) (ks := [0, 3, 4, 5, 6]) (bs := []) (sy' := ⟨[(0, V (.slice a1 l_.length c1)), (3, V (.slice a109 out_108.length c110)), (4, I i_112), (5, V (.slice none 0 0)), (6, I 0)], []⟩) (by kernel_rfl) ?_
          intro a hS
          refine wblock ?_
          obtain ⟨I2, μ2, hm0, hm⟩ := hm
          refine wloop (σ := (List (List Ref05_Token)) × (List Ref05_Token) × Int) (fun s a w => ∃ (ρ : Nat → Nat) (χ : Nat → Nat) (a135 : Option Addr) (c136 : Nat) (a139 : Option Addr) (c140 : Nat), I2 s.1 s.2.1 s.2.2 ∧ St Tryd.f19.ntmps ⟨[(0, V (.slice a1 l_.length c1)), (3, V (.slice a135 s.1.length c136)), (4, I i_112), (5, V (.slice a139 s.2.1.length c140)), (6, I s.2.2)], []⟩ ρ a w χ ∧ Old w0 χ0 w χ ∧ RS (tSlice tToken_Token) w χ a1 l_ c1 ∧ OS (tSlice tRef05_Token) 83 w χ 1003 a135 s.1 c136 ∧ OS tRef05_Token 85 w χ 1006 a139 s.2.1 c140) (fun s => μ2 s.1 s.2.1 s.2.2) (⟨out_108, [], 0⟩) ?_ ?_
          · exact ⟨ρ, _, a109, c110, none, 0, hm0, hS.sel [0, 3, 4, 5, 6] [] (by kernel_rfl), hO, h107, h111, (OS.nil _ _ _ _ _)⟩
          · rintro ⟨out_134, row_138, k_142⟩ a w170 ⟨ρ, χ169, a135, c136, a139, c140, hI, hS, hO, h133, h137, h141⟩
            replace hm := hm out_134 row_138 k_142 hI
            clear hI hm0
            refine wseq ?_
            refine regO ?_
            refine opsP T hS 3 (sp := []) (ks := [0, 3, 4, 5, 6, 14, 15, 16]) (bs := []) (sy' := ⟨[(0, V (.slice a1 l_.length c1)), (3, V (.slice a135 out_134.length c136)), (4, I i_112), (5, V (.slice a139 row_138.length c140)), (6, I k_142), (14, I k_142), (15, V (.slice a1 l_.length c1)), (16, I i_112)], []⟩) (by kernel_rfl) ?_
            intro a hS
            obtain ⟨hq, hm⟩ := hm
            refine op1 (index (e := 39) (k := .i64) T hS (by kernel_rfl) (by kernel_rfl) (by kernel_rfl) (by kernel_rfl) h133 (by kernel_rfl) (by kernel_rfl) hq.1 hq.2 ?_)
            intro A143 a h144 hS
            clear hq
            refine op1 (load1 T hS (by kernel_rfl) (by kernel_rfl) (by kernel_rfl) h144 rfl (by kernel_rfl) ?_)
            intro v145 a hv hS
            obtain ⟨a146, c147, hv, h148⟩ := hv
            cases hv
            replace hm := hm (h148.sm (by kernel_rfl))
            refine endP T hS (sp := []) (ks := [0, 3, 4, 5, 6, 20]) (bs := []) (sy' := ⟨[(0, V (.slice a1 l_.length c1)), (3, V (.slice a135 out_134.length c136)), (4, I i_112), (5, V (.slice a139 row_138.length c140)), (6, I k_142), (20, B (decide (k_142 < (((gi l_ i_112).length : Nat) : Int))))], []⟩) (by kernel_rfl) ?_
            intro a hS
            refine wcond hS (b := decide (k_142 < (((gi l_ i_112).length : Nat) : Int))) (by kernel_rfl) (fun hb => ?_) (fun hb => ?_)
            · replace hm := hm.1 hb
              refine wskip ?_
              refine wseq ?_
              refine wblock ?_
              refine regO ?_
              refine opsP T hS 2 (sp := []) (ks := [0, 3, 4, 5, 6, 23, 24]) (bs := []) (sy' := ⟨[(0, V (.slice a1 l_.length c1)), (3, V (.slice a135 out_134.length c136)), (4, I i_112), (5, V (.slice a139 row_138.length c140)), (6, I k_142), (23, V (.slice a1 l_.length c1)), (24, I i_112)], []⟩) (by kernel_rfl) ?_
              intro a hS
              obtain ⟨hq, hm⟩ := hm
              refine op1 (index (e := 39) (k := .i64) T hS (by kernel_rfl) (by kernel_rfl) (by kernel_rfl) (by kernel_rfl) h133 (by kernel_rfl) (by kernel_rfl) hq.1 hq.2 ?_)
              intro A149 a h150 hS
              clear hq
              refine op1 (load1 T hS (by kernel_rfl) (by kernel_rfl) (by kernel_rfl) h150 rfl (by kernel_rfl) ?_)
              intro v151 a hv hS
              obtain ⟨a152, c153, hv, h154⟩ := hv
              cases hv
              replace hm := hm (h154.sm (by kernel_rfl))
              refine opsP T hS 1 (sp := []) (ks := [0, 3, 4, 5, 6, 26, 27]) (bs := []) (sy' := ⟨[(0, V (.slice a1 l_.length c1)), (3, V (.slice a135 out_134.length c136)), (4, I i_112), (5, V (.slice a139 row_138.length c140)), (6, I k_142), (26, V (.slice a152 (gi l_ i_112).length c153)), (27, I k_142)], []⟩) (by kernel_rfl) ?_
              intro a hS
              obtain ⟨hq, hm⟩ := hm
              refine op1 (index (e := 41) (k := .i64) T hS (by kernel_rfl) (by kernel_rfl) (by kernel_rfl) (by kernel_rfl) h154 (by kernel_rfl) (by kernel_rfl) hq.1 hq.2 ?_)
              intro A155 a h156 hS
              clear hq
              refine op1 (loadA T hS (by kernel_rfl) (by kernel_rfl) (by kernel_rfl) h156 (by kernel_rfl) (by kernel_rfl) ?_)
              intro v157 a hv hS
              subst hv
              refine endM T hS (sp := []) (ks := [0, 3, 4, 5, 6, 7]) (bs := [8]) (sy' := ⟨[(0, V (.slice a1 l_.length c1)), (3, V (.slice a135 out_134.length c136)), (4, I i_112), (5, V (.slice a139 row_138.length c140)), (6, I k_142), (7, Pt 8 0)], [(8, (41, [I ((gi (gi l_ i_112) k_142).Line), I ((gi (gi l_ i_112) k_142).At), V (.string (bs ((gi (gi l_ i_112) k_142).Text)))]))]⟩) (by kernel_rfl) ?_
              intro ρ a w167 χ168 hS hE hr
              replace hO := hO.mv hE rfl rfl
              replace h133 := h133.mv hE rfl
              replace h137 := h137.mv hE rfl rfl
              replace h141 := h141.mv hE rfl rfl
              clear hE hr
              refine region ?_
              refine opsP T hS 8 (sp := []) (ks := [0, 3, 4, 5, 6, 30, 37]) (bs := []) (sy' := ⟨[(0, V (.slice a1 l_.length c1)), (3, V (.slice a135 out_134.length c136)), (4, I i_112), (5, V (.slice a139 row_138.length c140)), (6, I k_142), (30, V (.slice a139 row_138.length c140)), (37, V (.agg #[.int .i64 ((gi (gi l_ i_112) k_142).Line), .int .i64 ((gi (gi l_ i_112) k_142).At), .string (bs ((gi (gi l_ i_112) k_142).Text))]))], []⟩) (by kernel_rfl) ?_
              intro a hS
              refine op1 (lit (E := 85) (col := 0) (T := tRef05_Token) (vals := [.agg #[.int .i64 ((gi (gi l_ i_112) k_142).Line), .int .i64 ((gi (gi l_ i_112) k_142).At), .string (bs ((gi (gi l_ i_112) k_142).Text))]]) (ys := [(⟨(gi (gi l_ i_112) k_142).Line, (gi (gi l_ i_112) k_142).At, (gi (gi l_ i_112) k_142).Text⟩ : Ref05_Token)]) T hS (by kernel_rfl) (by kernel_rfl) (by kernel_rfl) (by kernel_rfl) (by exact ⟨rfl, trivial⟩) rfl (by kernel_rfl) (by kernel_rfl) (by kernel_rfl) (by kernel_rfl) ?_)
              intro b158 a w159 χ160 hE h161 hN hS
              clear hN
              replace hO := hO.mv hE rfl rfl
              replace h133 := h133.mv hE rfl
              replace h137 := h137.mv hE rfl rfl
              replace h141 := h141.mv hE rfl rfl
              clear hE
              replace h161 := h161.rs0
              obtain ⟨hq, hm⟩ := hm
              obtain ⟨news, hN⟩ := h161.src
              refine op1 (append (E := 85) (T := tRef05_Token) (col := 1006) (xs := row_138) T hS (by kernel_rfl) (by kernel_rfl) (by kernel_rfl) (by kernel_rfl) h141 hN (by kernel_rfl) (by kernel_rfl) (by kernel_rfl) (by kernel_rfl) hq ?_)
              intro a165 c166 a w162 χ163 hE h164 hS
              clear hq hN
              clear h141
              replace hO := hO.mv hE rfl rfl
              replace h133 := h133.mv hE rfl
              replace h137 := h137.mv hE rfl rfl
              replace h161 := h161.mv hE rfl
              clear hE
              refine endP T hS (sp := []) (ks := [0, 3, 4, 5, 6]) (bs := []) (sy' := ⟨[(0, V (.slice a1 l_.length c1)), (3, V (.slice a135 out_134.length c136)), (4, I i_112), (5, V (.slice a165 (row_138 ++ [(⟨(gi (gi l_ i_112) k_142).Line, (gi (gi l_ i_112) k_142).At, (gi (gi l_ i_112) k_142).Text⟩ : Ref05_Token)]).length c166)), (6, I k_142)], []⟩) (by kernel_rfl) ?_
              intro a hS
              refine region (endP T hS (sp := []) (ks := [0, 3, 4, 5, 6]) (bs := []) (sy' := ⟨[(0, V (.slice a1 l_.length c1)), (3, V (.slice a135 out_134.length c136)), (4, I i_112), (5, V (.slice a165 (row_138 ++ [(⟨(gi (gi l_ i_112) k_142).Line, (gi (gi l_ i_112) k_142).At, (gi (gi l_ i_112) k_142).Text⟩ : Ref05_Token)]).length c166)), (6, I (IntKind.i64.wrap (k_142 + 1)))], []⟩) (by kernel_rfl) ?_)
              intro a hS
              exact ⟨⟨out_134, row_138 ++ [(⟨(gi (gi l_ i_112) k_142).Line, (gi (gi l_ i_112) k_142).At, (gi (gi l_ i_112) k_142).Text⟩ : Ref05_Token)], IntKind.i64.wrap (k_142 + 1)⟩, ⟨ρ, _, a135, c136, a165, c166, hm.1, hS.sel [0, 3, 4, 5, 6] [] (by kernel_rfl), hO, h133, h137, h164⟩, hm.2⟩
            · replace hm := hm.2 hb
              refine wexit (by rfl) ?_
              exact ⟨ρ, _, out_134, row_138, a135, c136, a139, c140, hm, hS.sel [0, 3, 4, 5] [] (by kernel_rfl), hO, h133, h137, h141⟩
        · rintro a w172 ⟨ρ, χ171, out_114, row_118, a115, c116, a119, c120, hm, hS, hO, h113, h117, h121⟩
          unfold VC19_J2 at hm
          refine region ?_
          refine opsP T hS 2 (sp := []) (ks := [0, 3, 4, 40, 41]) (bs := []) (sy' := ⟨[(0, V (.slice a1 l_.length c1)), (3, V (.slice a115 out_114.length c116)), (4, I i_112), (40, V (.slice a115 out_114.length c116)), (41, V (.slice a119 row_118.length c120))], []⟩) (by kernel_rfl) ?_
          intro a hS
          obtain ⟨χ122, hE, hF⟩ := h121.freeze (by decide)
          replace hS := hS.ev hE (xone_box (by kernel_rfl))
          replace hO := hO.mv hE rfl rfl
          replace h113 := h113.mv hE rfl
          replace h117 := h117.mv hE rfl rfl
          have h123 := hF; clear hE hF
          refine op1 (lit (E := 83) (col := 0) (T := (tSlice tRef05_Token)) (vals := [.slice a119 row_118.length c120]) (ys := [row_118]) T hS (by kernel_rfl) (by kernel_rfl) (by kernel_rfl) (by kernel_rfl) (by exact ⟨⟨a119, c120, rfl, h123⟩, trivial⟩) rfl (by kernel_rfl) (by kernel_rfl) (by kernel_rfl) (by kernel_rfl) ?_)
          intro b124 a w125 χ126 hE h127 hN hS
          clear hN
          replace hO := hO.mv hE rfl rfl
          replace h113 := h113.mv hE rfl
          replace h117 := h117.mv hE rfl rfl
          replace h123 := h123.mv hE rfl
          clear hE
          replace h127 := h127.rs0
          obtain ⟨hq, hm⟩ := hm
          obtain ⟨news, hN⟩ := h127.src
          refine op1 (append (E := 83) (T := (tSlice tRef05_Token)) (col := 1003) (xs := out_114) T hS (by kernel_rfl) (by kernel_rfl) (by kernel_rfl) (by kernel_rfl) h117 hN (by kernel_rfl) (by kernel_rfl) (by kernel_rfl) (by kernel_rfl) hq ?_)
          intro a131 c132 a w128 χ129 hE h130 hS
          clear hq hN
          clear h117
          replace hO := hO.mv hE rfl rfl
          replace h113 := h113.mv hE rfl
          replace h123 := h123.mv hE rfl
          replace h127 := h127.mv hE rfl
          clear hE
          refine endP T hS (sp := []) (ks := [0, 3, 4]) (bs := []) (sy' := ⟨[(0, V (.slice a1 l_.length c1)), (3, V (.slice a131 (out_114 ++ [row_118]).length c132)), (4, I i_112)], []⟩) (by kernel_rfl) ?_
          intro a hS
          refine region (endP T hS (sp := []) (ks := [0, 3, 4]) (bs := []) (sy' := ⟨[(0, V (.slice a1 l_.length c1)), (3, V (.slice a131 (out_114 ++ [row_118]).length c132)), (4, I (IntKind.i64.wrap (i_112 + 1)))], []⟩) (by kernel_rfl) ?_)
          intro a hS
          exact ⟨⟨out_114 ++ [row_118], IntKind.i64.wrap (i_112 + 1)⟩, ⟨ρ, _, a131, c132, hm.1, hS.sel [0, 3, 4] [] (by kernel_rfl), hO, h113, h130⟩, hm.2⟩
      · replace hm := hm.2 hb
        refine wexit (by rfl) ?_
        exact ⟨ρ, _, out_108, a109, c110, hm, hS.sel [3] [] (by kernel_rfl), hO, h111⟩
  · rintro a w176 ⟨ρ, χ175, out_101, a102, c103, hm, hS, hO, h104⟩
    unfold VC19_J1 at hm
    refine regP T hS (sp := []) (ks := [2]) (bs := []) (sy' := ⟨[(2, V (.slice a102 out_101.length c103))], []⟩) (by kernel_rfl) ?_
    intro a hS
    refine wret ?_
    obtain ⟨χ105, hE, hF⟩ := h104.freeze (by decide)
    replace hS := hS.ev hE (xone_box (by kernel_rfl))
    replace hO := hO.mv hE rfl rfl
    have h106 := hF; clear hE hF
    exact fin T hS hO (fun c => c) rfl (r := [.slice a102 out_101.length c103]) (by kernel_rfl) (fun χ' hM hC => ⟨out_101, hm, a102, c103, rfl, h106.m0 hM⟩)
theorem C19 (v : ∀ (l_ : List (List Token_Token)), preOf l_ → VC19 l_ (fun r => r = law05_Of l_)) : S19 := by
  intro w χ l_ a1 c1   hp h1
  refine (W19 w χ l_ a1 c1   _ (v l_ hp) h1).mono ?_
  rintro _ _ _ _ ⟨r, rfl, h⟩
  exact h
def S16 : Prop := ∀ (w : World) (χ : Nat → Nat) (s_ : List UInt8), len1 s_ → Ret Tryd.prog 16 #[.string (bs s_)] xnone w χ (fun w χ' v => ∃ (ra1 : Option Addr) (rc1 : Nat), v = .slice ra1 (token_Lines s_).length rc1 ∧ RS (tSlice tToken_Token) w χ' ra1 (token_Lines s_) rc1)
theorem hb16 : hasBody Tryd.prog 16 = true := by kernel_rfl
/-- replevin/token.Lines -/
theorem W16 (k53 : S53) (k54 : S54) (w0 : World) (χ0 : Nat → Nat) (s_ : List UInt8) (Q : (List (List Token_Token)) → Prop) (hm : VC16 s_ Q) :
    Ret Tryd.prog 16 #[.string (bs s_)] xnone w0 χ0 (fun w χ' v => ∃ r, Q r ∧ ∃ (ra1 : Option Addr) (rc1 : Nat), v = .slice ra1 r.length rc1 ∧ RS (tSlice tToken_Token) w χ' ra1 r rc1) := by
  unfold VC16 at hm
  refine enter Tryd.func16 rfl (vals := [.string (bs s_)]) (by kernel_rfl) ?_
  intro ρ a hS hO hM
  clear hM
  refine regP T hS (sp := []) (ks := [0]) (bs := []) (sy' := ⟨[(0, V (.string (bs s_)))], []⟩) (by kernel_rfl) ?_
  intro a hS
  refine regP T hS (sp := []) (ks := [0, 3]) (bs := []) (sy' := ⟨[(0, V (.string (bs s_))), (3, V (.slice none 0 0))], []⟩) (by kernel_rfl) ?_
  intro a hS
  refine wcut (fun a w => ∃ (ρ : Nat → Nat) (χ : Nat → Nat) (out_101 : List (List Token_Token)) (a102 : Option Addr) (c103 : Nat), VC16_J1 Q out_101 ∧ St Tryd.f16.ntmps ⟨[(3, V (.slice a102 out_101.length c103))], []⟩ ρ a w χ ∧ Old w0 χ0 w χ ∧ OS (tSlice tToken_Token) 39 w χ 1003 a102 out_101 c103) ?_ ?_
  · refine regP T hS (sp := []) (ks := [0, 3, 4]) (bs := []) (sy' := ⟨[(0, V (.string (bs s_))), (3, V (.slice none 0 0)), (4, I 0)], []⟩) (by kernel_rfl) ?_
    intro a hS
    refine wblock ?_
    obtain ⟨I1, μ1, hm0, hm⟩ := hm
    refine wloop (σ := (List (List Token_Token)) × Int) (fun s a w => ∃ (ρ : Nat → Nat) (χ : Nat → Nat) (a108 : Option Addr) (c109 : Nat), I1 s.1 s.2 ∧ St Tryd.f16.ntmps ⟨[(0, V (.string (bs s_))), (3, V (.slice a108 s.1.length c109)), (4, I s.2)], []⟩ ρ a w χ ∧ Old w0 χ0 w χ ∧ OS (tSlice tToken_Token) 39 w χ 1003 a108 s.1 c109) (fun s => μ1 s.1 s.2) (⟨[], 0⟩) ?_ ?_
    · exact ⟨ρ, _, none, 0, hm0, hS.sel [0, 3, 4] [] (by kernel_rfl), hO, (OS.nil _ _ _ _ _)⟩
    · rintro ⟨out_107, at_111⟩ a w133 ⟨ρ, χ132, a108, c109, hI, hS, hO, h110⟩
      replace hm := hm out_107 at_111 hI
      clear hI hm0
      refine wseq ?_
      refine regP T hS (sp := []) (ks := [0, 3, 4, 11]) (bs := []) (sy' := ⟨[(0, V (.string (bs s_))), (3, V (.slice a108 out_107.length c109)), (4, I at_111), (11, B (decide (at_111 < ((s_.length : Nat) : Int))))], []⟩) (by kernel_rfl) ?_
      intro a hS
      refine wcond hS (b := decide (at_111 < ((s_.length : Nat) : Int))) (by kernel_rfl) (fun hb => ?_) (fun hb => ?_)
      · replace hm := hm.1 hb
        refine wskip ?_
        refine wblock ?_
        refine regO ?_
        refine opsP T hS 2 (sp := []) (ks := [0, 3, 4, 13, 14]) (bs := []) (sy' := ⟨[(0, V (.string (bs s_))), (3, V (.slice a108 out_107.length c109)), (4, I at_111), (13, V (.string (bs s_))), (14, I at_111)], []⟩) (by kernel_rfl) ?_
        intro a hS
        obtain ⟨hq, hm⟩ := hm
        refine op1 (sslice1 (kl := .i64) (s := s_) T hS (by kernel_rfl) (by kernel_rfl) (by kernel_rfl) (by kernel_rfl) (by kernel_rfl) hq.1 hq.2 ?_)
        intro a hS
        clear hq
        obtain ⟨hq, hm⟩ := hm
        refine op1 (call hS (by kernel_rfl) (by kernel_rfl) hb53 (by kernel_rfl) (fun _ _ => rfl) (k53 _ _ (s_.drop at_111.toNat) ([10] : List UInt8) hq) ?_)
        intro v112 a w113 χ114 hE hp hS
        clear hq
        replace hO := hO.mv hE rfl rfl
        replace h110 := h110.mv hE rfl rfl
        clear hE
        obtain ⟨r115, hr⟩ : ∃ r, strings_Cut (s_.drop at_111.toNat) ([10] : List UInt8) = r := ⟨_, rfl⟩
        replace hm := hm r115 hr
        rw [hr] at hp
        clear hr
        subst hp
        refine endP T hS (sp := []) (ks := [0, 3, 4, 5]) (bs := []) (sy' := ⟨[(0, V (.string (bs s_))), (3, V (.slice a108 out_107.length c109)), (4, I at_111), (5, V (.string (bs r115.1)))], []⟩) (by kernel_rfl) ?_
        intro a hS
        refine regO ?_
        refine opsP T hS 6 (sp := []) (ks := [0, 3, 4, 5, 20, 21, 24, 25]) (bs := []) (sy' := ⟨[(0, V (.string (bs s_))), (3, V (.slice a108 out_107.length c109)), (4, I at_111), (5, V (.string (bs r115.1))), (20, V (.slice a108 out_107.length c109)), (21, V (.string (bs r115.1))), (24, I (IntKind.i64.wrap (((out_107.length : Nat) : Int) + 1))), (25, I at_111)], []⟩) (by kernel_rfl) ?_
        intro a hS
        obtain ⟨hq, hm⟩ := hm
        refine op1 (call hS (by kernel_rfl) (by kernel_rfl) hb54 (by kernel_rfl) (fun _ _ => rfl) (k54 _ _ r115.1 (IntKind.i64.wrap (((out_107.length : Nat) : Int) + 1)) at_111 hq) ?_)
        intro v116 a w117 χ118 hE hp hS
        clear hq
        replace hO := hO.mv hE rfl rfl
        replace h110 := h110.mv hE rfl rfl
        clear hE
        obtain ⟨a120, c121, hp, h122⟩ := hp
        obtain ⟨r119, hr⟩ : ∃ r, token_tokens r115.1 (IntKind.i64.wrap (((out_107.length : Nat) : Int) + 1)) at_111 = r := ⟨_, rfl⟩
        replace hm := hm r119 hr
        rw [hr] at hp h122
        clear hr
        subst hp
        replace hm := hm (h122.sm (by kernel_rfl))
        refine op1 (lit (E := 39) (col := 0) (T := (tSlice tToken_Token)) (vals := [.slice a120 r119.length c121]) (ys := [r119]) T hS (by kernel_rfl) (by kernel_rfl) (by kernel_rfl) (by kernel_rfl) (by exact ⟨⟨a120, c121, rfl, h122⟩, trivial⟩) rfl (by kernel_rfl) (by kernel_rfl) (by kernel_rfl) (by kernel_rfl) ?_)
        intro b123 a w124 χ125 hE h126 hN hS
        clear hN
        replace hO := hO.mv hE rfl rfl
        replace h110 := h110.mv hE rfl rfl
        replace h122 := h122.mv hE rfl
        clear hE
        replace h126 := h126.rs0
        obtain ⟨hq, hm⟩ := hm
        obtain ⟨news, hN⟩ := h126.src
        refine op1 (append (E := 39) (T := (tSlice tToken_Token)) (col := 1003) (xs := out_107) T hS (by kernel_rfl) (by kernel_rfl) (by kernel_rfl) (by kernel_rfl) h110 hN (by kernel_rfl) (by kernel_rfl) (by kernel_rfl) (by kernel_rfl) hq ?_)
        intro a130 c131 a w127 χ128 hE h129 hS
        clear hq hN
        clear h110
        replace hO := hO.mv hE rfl rfl
        replace h122 := h122.mv hE rfl
        replace h126 := h126.mv hE rfl
        clear hE
        refine endP T hS (sp := []) (ks := [0, 3, 4, 5]) (bs := []) (sy' := ⟨[(0, V (.string (bs s_))), (3, V (.slice a130 (out_107 ++ [r119]).length c131)), (4, I at_111), (5, V (.string (bs r115.1)))], []⟩) (by kernel_rfl) ?_
        intro a hS
        refine region (endP T hS (sp := []) (ks := [0, 3, 4]) (bs := []) (sy' := ⟨[(0, V (.string (bs s_))), (3, V (.slice a130 (out_107 ++ [r119]).length c131)), (4, I (IntKind.i64.wrap (at_111 + (IntKind.i64.wrap (((r115.1.length : Nat) : Int) + 1)))))], []⟩) (by kernel_rfl) ?_)
        intro a hS
        exact ⟨⟨out_107 ++ [r119], IntKind.i64.wrap (at_111 + (IntKind.i64.wrap (((r115.1.length : Nat) : Int) + 1)))⟩, ⟨ρ, _, a130, c131, hm.1, hS.sel [0, 3, 4] [] (by kernel_rfl), hO, h129⟩, hm.2⟩
      · replace hm := hm.2 hb
        refine wexit (by rfl) ?_
        exact ⟨ρ, _, out_107, a108, c109, hm, hS.sel [3] [] (by kernel_rfl), hO, h110⟩
  · rintro a w135 ⟨ρ, χ134, out_101, a102, c103, hm, hS, hO, h104⟩
    unfold VC16_J1 at hm
    refine regP T hS (sp := []) (ks := [2]) (bs := []) (sy' := ⟨[(2, V (.slice a102 out_101.length c103))], []⟩) (by kernel_rfl) ?_
    intro a hS
    refine wret ?_
    obtain ⟨χ105, hE, hF⟩ := h104.freeze (by decide)
    replace hS := hS.ev hE (xone_box (by kernel_rfl))
    replace hO := hO.mv hE rfl rfl
    have h106 := hF; clear hE hF
    exact fin T hS hO (fun c => c) rfl (r := [.slice a102 out_101.length c103]) (by kernel_rfl) (fun χ' hM hC => ⟨out_101, hm, a102, c103, rfl, h106.m0 hM⟩)
theorem C16 (k53 : S53) (k54 : S54) (v : ∀ (s_ : List UInt8), len1 s_ → VC16 s_ (fun r => r = token_Lines s_)) : S16 := by
  intro w χ s_    hp 
  refine (W16 k53 k54 w χ s_    _ (v s_ hp)).mono ?_
  rintro _ _ _ _ ⟨r, rfl, h⟩
  exact h
def S24 : Prop := ∀ (w : World) (χ : Nat → Nat) (s_ : List UInt8) (lo : Int) (hi : Int), preNum s_ lo hi → Ret Tryd.prog 24 #[.string (bs s_), .int .i64 lo, .int .i64 hi] xnone w χ (fun w χ' v => v = .tuple #[.int .i64 ((token_Number s_ lo hi).1), .int .i64 ((token_Number s_ lo hi).2)])
theorem hb24 : hasBody Tryd.prog 24 = true := by kernel_rfl
/-- replevin/token.Number -/
theorem W24 (k60 : S60) (w0 : World) (χ0 : Nat → Nat) (s_ : List UInt8) (lo : Int) (hi : Int) (Q : Int × Int → Prop) (hm : VC24 s_ lo hi Q) :
    Ret Tryd.prog 24 #[.string (bs s_), .int .i64 lo, .int .i64 hi] xnone w0 χ0 (fun w χ' v => ∃ r, Q r ∧ v = .tuple #[.int .i64 r.1, .int .i64 r.2]) := by
  unfold VC24 at hm
  refine enter Tryd.func24 rfl (vals := [.string (bs s_), .int .i64 lo, .int .i64 hi]) (by kernel_rfl) ?_
  intro ρ a hS hO hM
  clear hM
  refine regP T hS (sp := []) (ks := [0, 1, 2]) (bs := []) (sy' := ⟨[(0, V (.string (bs s_))), (1, I lo), (2, I hi)], []⟩) (by kernel_rfl) ?_
  intro a hS
  refine regO ?_
  refine opsP T hS 1 (sp := []) (ks := [1, 2, 15]) (bs := []) (sy' := ⟨[(1, I lo), (2, I hi), (15, V (.string (bs s_)))], []⟩) (by kernel_rfl) ?_
  intro a hS
  obtain ⟨hq, hm⟩ := hm
  refine op1 (call hS (by kernel_rfl) (by kernel_rfl) hb60 (by kernel_rfl) (fun _ _ => rfl) (k60 _ _ s_ hq) ?_)
  intro v101 a w102 χ103 hE hp hS
  clear hq
  replace hO := hO.mv hE rfl rfl
  clear hE
  obtain ⟨r104, hr⟩ : ∃ r, token_numeral s_ = r := ⟨_, rfl⟩
  replace hm := hm r104 hr
  rw [hr] at hp
  clear hr
  subst hp
  refine endP T hS (sp := []) (ks := [1, 2, 8, 9, 10]) (bs := []) (sy' := ⟨[(1, I lo), (2, I hi), (8, V (.string (bs r104.1))), (9, B r104.2.1), (10, B r104.2.2)], []⟩) (by kernel_rfl) ?_
  intro a hS
  refine wseq ?_
  refine regP T hS (sp := []) (ks := [1, 2, 8, 9, 21]) (bs := []) (sy' := ⟨[(1, I lo), (2, I hi), (8, V (.string (bs r104.1))), (9, B r104.2.1), (21, B (!r104.2.2))], []⟩) (by kernel_rfl) ?_
  intro a hS
  refine wcond hS (b := (!r104.2.2)) (by kernel_rfl) (fun hb => ?_) (fun hb => ?_)
  · replace hm := hm.1 hb
    refine regP T hS (sp := []) (ks := [6, 7]) (bs := []) (sy' := ⟨[(6, I 0), (7, I 5)], []⟩) (by kernel_rfl) ?_
    intro a hS
    refine wret ?_
    exact fin T hS hO (fun c => c) rfl (r := [.int .i64 0, .int .i64 5]) (by kernel_rfl) (fun χ' hM hC => ⟨(0, 5), hm, rfl⟩)
  · replace hm := hm.2 hb
    refine wskip ?_
    refine regP T hS (sp := []) (ks := [1, 2, 8, 9, 11]) (bs := []) (sy' := ⟨[(1, I lo), (2, I hi), (8, V (.string (bs r104.1))), (9, B r104.2.1), (11, V (.int .u64 0))], []⟩) (by kernel_rfl) ?_
    intro a hS
    refine wcut (fun a w => ∃ (ρ : Nat → Nat) (χ : Nat → Nat) (n_105 : Int), VC24_J1 lo hi Q r104 n_105 ∧ St Tryd.f24.ntmps ⟨[(1, I lo), (2, I hi), (9, B r104.2.1), (11, V (.int .u64 n_105))], []⟩ ρ a w χ ∧ Old w0 χ0 w χ) ?_ ?_
    · refine regP T hS (sp := []) (ks := [1, 2, 8, 9, 11, 12]) (bs := []) (sy' := ⟨[(1, I lo), (2, I hi), (8, V (.string (bs r104.1))), (9, B r104.2.1), (11, V (.int .u64 0)), (12, I 0)], []⟩) (by kernel_rfl) ?_
      intro a hS
      refine wblock ?_
      obtain ⟨I1, μ1, hm0, hm⟩ := hm
      refine wloop (σ := Int × Int) (fun s a w => ∃ (ρ : Nat → Nat) (χ : Nat → Nat), I1 s.1 s.2 ∧ St Tryd.f24.ntmps ⟨[(1, I lo), (2, I hi), (8, V (.string (bs r104.1))), (9, B r104.2.1), (11, V (.int .u64 s.1)), (12, I s.2)], []⟩ ρ a w χ ∧ Old w0 χ0 w χ) (fun s => μ1 s.1 s.2) (⟨0, 0⟩) ?_ ?_
      · exact ⟨ρ, _, hm0, hS.sel [1, 2, 8, 9, 11, 12] [] (by kernel_rfl), hO⟩
      · rintro ⟨n_109, i_110⟩ a w112 ⟨ρ, χ111, hI, hS, hO⟩
        replace hm := hm n_109 i_110 hI
        clear hI hm0
        refine wseq ?_
        refine regP T hS (sp := []) (ks := [1, 2, 8, 9, 11, 12, 25]) (bs := []) (sy' := ⟨[(1, I lo), (2, I hi), (8, V (.string (bs r104.1))), (9, B r104.2.1), (11, V (.int .u64 n_109)), (12, I i_110), (25, B (decide (i_110 < ((r104.1.length : Nat) : Int))))], []⟩) (by kernel_rfl) ?_
        intro a hS
        refine wcond hS (b := decide (i_110 < ((r104.1.length : Nat) : Int))) (by kernel_rfl) (fun hb => ?_) (fun hb => ?_)
        · replace hm := hm.1 hb
          refine wskip ?_
          refine wseq ?_
          refine wblock ?_
          refine wseq ?_
          refine regP T hS (sp := []) (ks := [1, 2, 8, 9, 11, 12, 29]) (bs := []) (sy' := ⟨[(1, I lo), (2, I hi), (8, V (.string (bs r104.1))), (9, B r104.2.1), (11, V (.int .u64 n_109)), (12, I i_110), (29, B (decide (n_109 > 1844674407370955160)))], []⟩) (by kernel_rfl) ?_
          intro a hS
          refine wcond hS (b := decide (n_109 > 1844674407370955160)) (by kernel_rfl) (fun hb => ?_) (fun hb => ?_)
          · replace hm := hm.1 hb
            refine regP T hS (sp := []) (ks := [6, 7]) (bs := []) (sy' := ⟨[(6, I 0), (7, I 7)], []⟩) (by kernel_rfl) ?_
            intro a hS
            refine wret ?_
            exact fin T hS hO (fun c => c) rfl (r := [.int .i64 0, .int .i64 7]) (by kernel_rfl) (fun χ' hM hC => ⟨(0, 7), hm, rfl⟩)
          · replace hm := hm.2 hb
            refine wskip ?_
            refine region ?_
            refine opsP T hS 4 (sp := []) (ks := [1, 2, 8, 9, 11, 12, 31, 32, 33]) (bs := []) (sy' := ⟨[(1, I lo), (2, I hi), (8, V (.string (bs r104.1))), (9, B r104.2.1), (11, V (.int .u64 n_109)), (12, I i_110), (31, V (.int .u64 (IntKind.u64.wrap (10 * n_109)))), (32, V (.string (bs r104.1))), (33, I i_110)], []⟩) (by kernel_rfl) ?_
            intro a hS
            obtain ⟨hq, hm⟩ := hm
            refine op1 (sindex (k := .i64) T hS (by kernel_rfl) (by kernel_rfl) (by kernel_rfl) (by kernel_rfl) (by kernel_rfl) hq.1 hq.2 ?_)
            intro a hS
            clear hq
            refine endP T hS (sp := []) (ks := [1, 2, 8, 9, 11, 12]) (bs := []) (sy' := ⟨[(1, I lo), (2, I hi), (8, V (.string (bs r104.1))), (9, B r104.2.1), (11, V (.int .u64 (IntKind.u64.wrap ((IntKind.u64.wrap (10 * n_109)) + (IntKind.u64.wrap (IntKind.u8.wrap (((gi r104.1 i_110).toNat : Int) - 48))))))), (12, I i_110)], []⟩) (by kernel_rfl) ?_
            intro a hS
            refine region (endP T hS (sp := []) (ks := [1, 2, 8, 9, 11, 12]) (bs := []) (sy' := ⟨[(1, I lo), (2, I hi), (8, V (.string (bs r104.1))), (9, B r104.2.1), (11, V (.int .u64 (IntKind.u64.wrap ((IntKind.u64.wrap (10 * n_109)) + (IntKind.u64.wrap (IntKind.u8.wrap (((gi r104.1 i_110).toNat : Int) - 48))))))), (12, I (IntKind.i64.wrap (i_110 + 1)))], []⟩) (by kernel_rfl) ?_)
            intro a hS
            exact ⟨⟨IntKind.u64.wrap ((IntKind.u64.wrap (10 * n_109)) + (IntKind.u64.wrap (IntKind.u8.wrap (((gi r104.1 i_110).toNat : Int) - 48)))), IntKind.i64.wrap (i_110 + 1)⟩, ⟨ρ, _, hm.1, hS.sel [1, 2, 8, 9, 11, 12] [] (by kernel_rfl), hO⟩, hm.2⟩
        · replace hm := hm.2 hb
          refine wexit (by rfl) ?_
          exact ⟨ρ, _, n_109, hm, hS.sel [1, 2, 9, 11] [] (by kernel_rfl), hO⟩
    · rintro a w114 ⟨ρ, χ113, n_105, hm, hS, hO⟩
      unfold VC24_J1 at hm
      refine wseq ?_
      refine regP T hS (sp := [40, 42]) (ks := [1, 2, 9, 11, 47]) (bs := []) (sy' := ⟨[(1, I lo), (2, I hi), (9, B r104.2.1), (11, V (.int .u64 n_105)), (47, B ((decide (n_105 > 9223372036854775807)) && (!(r104.2.1 && (n_105 == 9223372036854775808)))))], []⟩) (by kernel_rfl) ?_
      intro a hS
      refine wcond hS (b := ((decide (n_105 > 9223372036854775807)) && (!(r104.2.1 && (n_105 == 9223372036854775808))))) (by kernel_rfl) (fun hb => ?_) (fun hb => ?_)
      · replace hm := hm.1 hb
        refine regP T hS (sp := []) (ks := [6, 7]) (bs := []) (sy' := ⟨[(6, I 0), (7, I 7)], []⟩) (by kernel_rfl) ?_
        intro a hS
        refine wret ?_
        exact fin T hS hO (fun c => c) rfl (r := [.int .i64 0, .int .i64 7]) (by kernel_rfl) (fun χ' hM hC => ⟨(0, 7), hm, rfl⟩)
      · replace hm := hm.2 hb
        refine wskip ?_
        refine regP T hS (sp := []) (ks := [1, 2, 9, 13]) (bs := []) (sy' := ⟨[(1, I lo), (2, I hi), (9, B r104.2.1), (13, I (IntKind.i64.wrap n_105))], []⟩) (by kernel_rfl) ?_
        intro a hS
        refine wcut (fun a w => ∃ (ρ : Nat → Nat) (χ : Nat → Nat) (x_106 : Int), VC24_J2 lo hi Q x_106 ∧ St Tryd.f24.ntmps ⟨[(1, I lo), (2, I hi), (13, I x_106)], []⟩ ρ a w χ ∧ Old w0 χ0 w χ) ?_ ?_
        · refine regP T hS (sp := []) (ks := [1, 2, 13, 50]) (bs := []) (sy' := ⟨[(1, I lo), (2, I hi), (13, I (IntKind.i64.wrap n_105)), (50, B r104.2.1)], []⟩) (by kernel_rfl) ?_
          intro a hS
          refine wcond hS (b := r104.2.1) (by kernel_rfl) (fun hb => ?_) (fun hb => ?_)
          · replace hm := hm.1 hb
            refine region (endP T hS (sp := []) (ks := [1, 2, 13]) (bs := []) (sy' := ⟨[(1, I lo), (2, I hi), (13, I (IntKind.i64.wrap (0 - (IntKind.i64.wrap n_105))))], []⟩) (by kernel_rfl) ?_)
            intro a hS
            exact ⟨ρ, _, IntKind.i64.wrap (0 - (IntKind.i64.wrap n_105)), hm, hS.sel [1, 2, 13] [] (by kernel_rfl), hO⟩
          · replace hm := hm.2 hb
            refine wskip ?_
            exact ⟨ρ, _, IntKind.i64.wrap n_105, hm, hS.sel [1, 2, 13] [] (by kernel_rfl), hO⟩
        · rintro a w108 ⟨ρ, χ107, x_106, hm, hS, hO⟩
          unfold VC24_J2 at hm
          refine wseq ?_
          refine regP T hS (sp := [56]) (ks := [13, 60]) (bs := []) (sy' := ⟨[(13, I x_106), (60, B ((decide (x_106 < lo)) || (decide (x_106 > hi))))], []⟩) (by kernel_rfl) ?_
          intro a hS
          refine wcond hS (b := ((decide (x_106 < lo)) || (decide (x_106 > hi)))) (by kernel_rfl) (fun hb => ?_) (fun hb => ?_)
          · replace hm := hm.1 hb
            refine regP T hS (sp := []) (ks := [6, 7]) (bs := []) (sy' := ⟨[(6, I 0), (7, I 7)], []⟩) (by kernel_rfl) ?_
            intro a hS
            refine wret ?_
            exact fin T hS hO (fun c => c) rfl (r := [.int .i64 0, .int .i64 7]) (by kernel_rfl) (fun χ' hM hC => ⟨(0, 7), hm, rfl⟩)
          · replace hm := hm.2 hb
            refine wskip ?_
            refine regP T hS (sp := []) (ks := [6, 7]) (bs := []) (sy' := ⟨[(6, I x_106), (7, I 0)], []⟩) (by kernel_rfl) ?_
            intro a hS
            refine wret ?_
            exact fin T hS hO (fun c => c) rfl (r := [.int .i64 x_106, .int .i64 0]) (by kernel_rfl) (fun χ' hM hC => ⟨(x_106, 0), hm, rfl⟩)
theorem C24 (k60 : S60) (v : ∀ (s_ : List UInt8) (lo : Int) (hi : Int), preNum s_ lo hi → VC24 s_ lo hi (fun r => r = token_Number s_ lo hi)) : S24 := by
  intro w χ s_ lo hi    hp 
  refine (W24 k60 w χ s_ lo hi    _ (v s_ lo hi hp)).mono ?_
  rintro _ _ _ _ ⟨r, rfl, h⟩
  exact h
def S26 : Prop := ∀ (w : World) (χ : Nat → Nat) (n_ : Int), preI n_ → Amb w χ → Ret Tryd.prog 26 #[.int .i64 n_] xnone w χ (fun w χ' v => v = .string (bs (token_Digits n_)))
theorem hb26 : hasBody Tryd.prog 26 = true := by kernel_rfl
/-- replevin/token.Digits -/
theorem W26 (k61 : S61) (w0 : World) (χ0 : Nat → Nat) (n_ : Int) (Q : (List UInt8) → Prop) (hm : VC26 n_ Q) (hAmb : Amb w0 χ0) :
    Ret Tryd.prog 26 #[.int .i64 n_] xnone w0 χ0 (fun w χ' v => ∃ r, Q r ∧ v = .string (bs r)) := by
  unfold VC26 at hm
  refine enter Tryd.func26 rfl (vals := [.int .i64 n_]) (by kernel_rfl) ?_
  intro ρ a hS hO hM
  replace hAmb := hAmb.m0 hM
  clear hM
  refine regP T hS (sp := []) (ks := [0]) (bs := []) (sy' := ⟨[(0, I n_)], []⟩) (by kernel_rfl) ?_
  intro a hS
  refine regO ?_
  refine opsP T hS 1 (sp := []) (ks := [3]) (bs := []) (sy' := ⟨[(3, I n_)], []⟩) (by kernel_rfl) ?_
  intro a hS
  obtain ⟨hq, hm⟩ := hm
  refine op1 (call hS (by kernel_rfl) (by kernel_rfl) hb61 (by kernel_rfl) (fun _ _ => rfl) (k61 _ _ n_ hq hAmb) ?_)
  intro v101 a w102 χ103 hE hp hS
  clear hq
  replace hO := hO.mv hE rfl rfl
  replace hAmb := hAmb.mv hE rfl
  clear hE
  obtain ⟨r104, hr⟩ : ∃ r, strconv_Itoa n_ = r := ⟨_, rfl⟩
  replace hm := hm r104 hr
  rw [hr] at hp
  clear hr
  subst hp
  refine endP T hS (sp := []) (ks := [2]) (bs := []) (sy' := ⟨[(2, V (.string (bs r104)))], []⟩) (by kernel_rfl) ?_
  intro a hS
  refine wret ?_
  exact fin T hS hO (fun c => c) rfl (r := [.string (bs r104)]) (by kernel_rfl) (fun χ' hM hC => ⟨r104, hm, rfl⟩)
theorem C26 (k61 : S61) (v : ∀ (n_ : Int), preI n_ → VC26 n_ (fun r => r = token_Digits n_)) : S26 := by
  intro w χ n_    hp hAmb
  refine (W26 k61 w χ n_    _ (v n_ hp) hAmb).mono ?_
  rintro _ _ _ _ ⟨r, rfl, h⟩
  exact h
def S22 : Prop := ∀ (w : World) (χ : Nat → Nat) (lines : List (List Token_Token)) (a1 : Option Addr) (c1 : Nat), preJ lines → RS (tSlice tToken_Token) w χ a1 lines c1 → Ret Tryd.prog 22 #[.slice a1 lines.length c1] xnone w χ (fun w χ' v => v = .string (bs (token_Join lines)))
theorem hb22 : hasBody Tryd.prog 22 = true := by kernel_rfl
/-- replevin/token.Join -/
theorem W22 (w0 : World) (χ0 : Nat → Nat) (lines : List (List Token_Token)) (a1 : Option Addr) (c1 : Nat) (Q : (List UInt8) → Prop) (hm : VC22 lines Q) (h1 : RS (tSlice tToken_Token) w0 χ0 a1 lines c1) :
    Ret Tryd.prog 22 #[.slice a1 lines.length c1] xnone w0 χ0 (fun w χ' v => ∃ r, Q r ∧ v = .string (bs r)) := by
  unfold VC22 at hm
  replace hm := hm (h1.sm (by kernel_rfl))
  refine enter Tryd.func22 rfl (vals := [.slice a1 lines.length c1]) (by kernel_rfl) ?_
  intro ρ a hS hO hM
  replace h1 := h1.m0 hM
  clear hM
  refine regP T hS (sp := []) (ks := [0]) (bs := []) (sy' := ⟨[(0, V (.slice a1 lines.length c1))], []⟩) (by kernel_rfl) ?_
  intro a hS
  refine regO ?_
  refine op1 (mkbld T 90 5 1004 hS (by kernel_rfl) (by kernel_rfl) (by kernel_rfl) ?_)
  intro r101 a w102 χ103 hE h104 hS
  replace hO := hO.mv hE rfl rfl
  replace h1 := h1.mv hE rfl
  clear hE
  refine doneK ?_
  refine wcut (fun a w => ∃ (ρ : Nat → Nat) (χ : Nat → Nat) (b_105 : List UInt8), VC22_J1 Q b_105 ∧ St Tryd.f22.ntmps ⟨[(3, V (.pointer (some ⟨r101, 0, none⟩)))], []⟩ ρ a w χ ∧ Old w0 χ0 w χ ∧ BL 90 5 w χ 1004 r101 b_105) ?_ ?_
  · refine regP T hS (sp := []) (ks := [3, 8, 9, 10]) (bs := []) (sy' := ⟨[(3, V (.pointer (some ⟨r101, 0, none⟩))), (8, V (.slice a1 lines.length c1)), (9, I ((lines.length : Nat) : Int)), (10, I 0)], []⟩) (by kernel_rfl) ?_
    intro a hS
    refine wblock ?_
    obtain ⟨I1, μ1, hm0, hm⟩ := hm
    refine wloop (σ := (List UInt8) × Int) (fun s a w => ∃ (ρ : Nat → Nat) (χ : Nat → Nat), I1 s.1 s.2 ∧ St Tryd.f22.ntmps ⟨[(3, V (.pointer (some ⟨r101, 0, none⟩))), (8, V (.slice a1 lines.length c1)), (9, I ((lines.length : Nat) : Int)), (10, I s.2)], []⟩ ρ a w χ ∧ Old w0 χ0 w χ ∧ BL 90 5 w χ 1004 r101 s.1 ∧ RS (tSlice tToken_Token) w χ a1 lines c1) (fun s => μ1 s.1 s.2) (⟨([] : List UInt8), 0⟩) ?_ ?_
    · exact ⟨ρ, _, hm0, hS.sel [3, 8, 9, 10] [] (by kernel_rfl), hO, h104, h1⟩
    · rintro ⟨b_111, x_114⟩ a w157 ⟨ρ, χ156, hI, hS, hO, h112, h113⟩
      replace hm := hm b_111 x_114 hI
      clear hI hm0
      refine regP T hS (sp := []) (ks := [3, 8, 9, 10, 11]) (bs := []) (sy' := ⟨[(3, V (.pointer (some ⟨r101, 0, none⟩))), (8, V (.slice a1 lines.length c1)), (9, I ((lines.length : Nat) : Int)), (10, I x_114), (11, B (decide (x_114 < ((lines.length : Nat) : Int))))], []⟩) (by kernel_rfl) ?_
      intro a hS
      refine wseq ?_
      refine wcond hS (b := decide (x_114 < ((lines.length : Nat) : Int))) (by kernel_rfl) (fun hb => ?_) (fun hb => ?_)
      · replace hm := hm.1 hb
        refine wskip ?_
        refine wseq ?_
        refine wblock ?_
        refine regO ?_
        obtain ⟨hq, hm⟩ := hm
        refine op1 (index (e := 39) (k := .i64) T hS (by kernel_rfl) (by kernel_rfl) (by kernel_rfl) (by kernel_rfl) h113 (by kernel_rfl) (by kernel_rfl) hq.1 hq.2 ?_)
        intro A115 a h116 hS
        clear hq
        refine op1 (load1 T hS (by kernel_rfl) (by kernel_rfl) (by kernel_rfl) h116 rfl (by kernel_rfl) ?_)
        intro v117 a hv hS
        obtain ⟨a118, c119, hv, h120⟩ := hv
        cases hv
        replace hm := hm (h120.sm (by kernel_rfl))
        refine endP T hS (sp := []) (ks := [3, 5, 8, 9, 10]) (bs := []) (sy' := ⟨[(3, V (.pointer (some ⟨r101, 0, none⟩))), (5, V (.slice a118 (gi lines x_114).length c119)), (8, V (.slice a1 lines.length c1)), (9, I ((lines.length : Nat) : Int)), (10, I x_114)], []⟩) (by kernel_rfl) ?_
        intro a hS
        refine wcut (fun a w => ∃ (ρ : Nat → Nat) (χ : Nat → Nat) (b_121 : List UInt8), VC22_J2 I1 μ1 b_111 x_114 b_121 ∧ St Tryd.f22.ntmps ⟨[(3, V (.pointer (some ⟨r101, 0, none⟩))), (8, V (.slice a1 lines.length c1)), (9, I ((lines.length : Nat) : Int)), (10, I x_114)], []⟩ ρ a w χ ∧ Old w0 χ0 w χ ∧ BL 90 5 w χ 1004 r101 b_121 ∧ RS (tSlice tToken_Token) w χ a1 lines c1) ?_ ?_
        · refine regP T hS (sp := []) (ks := [3, 8, 9, 10, 14, 15, 16]) (bs := []) (sy' := ⟨[(3, V (.pointer (some ⟨r101, 0, none⟩))), (8, V (.slice a1 lines.length c1)), (9, I ((lines.length : Nat) : Int)), (10, I x_114), (14, V (.slice a118 (gi lines x_114).length c119)), (15, I (((gi lines x_114).length : Nat) : Int)), (16, I 0)], []⟩) (by kernel_rfl) ?_
          intro a hS
          refine wblock ?_
          obtain ⟨I2, μ2, hm0, hm⟩ := hm
          refine wloop (σ := (List UInt8) × Int) (fun s a w => ∃ (ρ : Nat → Nat) (χ : Nat → Nat), I2 s.1 s.2 ∧ St Tryd.f22.ntmps ⟨[(3, V (.pointer (some ⟨r101, 0, none⟩))), (8, V (.slice a1 lines.length c1)), (9, I ((lines.length : Nat) : Int)), (10, I x_114), (14, V (.slice a118 (gi lines x_114).length c119)), (15, I (((gi lines x_114).length : Nat) : Int)), (16, I s.2)], []⟩ ρ a w χ ∧ Old w0 χ0 w χ ∧ BL 90 5 w χ 1004 r101 s.1 ∧ RS (tSlice tToken_Token) w χ a1 lines c1 ∧ RS tToken_Token w χ a118 (gi lines x_114) c119) (fun s => μ2 s.1 s.2) (⟨b_111, 0⟩) ?_ ?_
          · exact ⟨ρ, _, hm0, hS.sel [3, 8, 9, 10, 14, 15, 16] [] (by kernel_rfl), hO, h112, h113, h120⟩
          · rintro ⟨b_128, x_132⟩ a w153 ⟨ρ, χ152, hI, hS, hO, h129, h130, h131⟩
            replace hm := hm b_128 x_132 hI
            clear hI hm0
            refine regP T hS (sp := []) (ks := [3, 8, 9, 10, 14, 15, 16, 17]) (bs := []) (sy' := ⟨[(3, V (.pointer (some ⟨r101, 0, none⟩))), (8, V (.slice a1 lines.length c1)), (9, I ((lines.length : Nat) : Int)), (10, I x_114), (14, V (.slice a118 (gi lines x_114).length c119)), (15, I (((gi lines x_114).length : Nat) : Int)), (16, I x_132), (17, B (decide (x_132 < (((gi lines x_114).length : Nat) : Int))))], []⟩) (by kernel_rfl) ?_
            intro a hS
            refine wseq ?_
            refine wcond hS (b := decide (x_132 < (((gi lines x_114).length : Nat) : Int))) (by kernel_rfl) (fun hb => ?_) (fun hb => ?_)
            · replace hm := hm.1 hb
              refine wskip ?_
              refine wseq ?_
              refine wblock ?_
              refine regO ?_
              refine opsP T hS 1 (sp := []) (ks := [3, 8, 9, 10, 14, 15, 16, 18]) (bs := []) (sy' := ⟨[(3, V (.pointer (some ⟨r101, 0, none⟩))), (8, V (.slice a1 lines.length c1)), (9, I ((lines.length : Nat) : Int)), (10, I x_114), (14, V (.slice a118 (gi lines x_114).length c119)), (15, I (((gi lines x_114).length : Nat) : Int)), (16, I x_132), (18, I x_132)], []⟩) (by kernel_rfl) ?_
              intro a hS
              obtain ⟨hq, hm⟩ := hm
              refine op1 (index (e := 41) (k := .i64) T hS (by kernel_rfl) (by kernel_rfl) (by kernel_rfl) (by kernel_rfl) h131 (by kernel_rfl) (by kernel_rfl) hq.1 hq.2 ?_)
              intro A133 a h134 hS
              clear hq
              refine op1 (loadA T hS (by kernel_rfl) (by kernel_rfl) (by kernel_rfl) h134 (by kernel_rfl) (by kernel_rfl) ?_)
              intro v135 a hv hS
              subst hv
              refine endM T hS (sp := []) (ks := [3, 6, 7, 8, 9, 10, 14, 15, 16]) (bs := [8]) (sy' := ⟨[(3, V (.pointer (some ⟨r101, 0, none⟩))), (6, I x_132), (7, Pt 8 0), (8, V (.slice a1 lines.length c1)), (9, I ((lines.length : Nat) : Int)), (10, I x_114), (14, V (.slice a118 (gi lines x_114).length c119)), (15, I (((gi lines x_114).length : Nat) : Int)), (16, I x_132)], [(8, (41, [I ((gi (gi lines x_114) x_132).Line), I ((gi (gi lines x_114) x_132).At), V (.string (bs ((gi (gi lines x_114) x_132).Text)))]))]⟩) (by kernel_rfl) ?_
              intro ρ a w150 χ151 hS hE hr
              replace hO := hO.mv hE rfl rfl
              replace h129 := h129.mv hE rfl rfl
              replace h130 := h130.mv hE rfl
              replace h131 := h131.mv hE rfl
              clear hE hr
              refine wcut (fun a w => ∃ (ρ : Nat → Nat) (χ : Nat → Nat) (b_136 : List UInt8), VC22_J3 lines x_114 I2 μ2 b_128 x_132 b_136 ∧ St Tryd.f22.ntmps ⟨[(3, V (.pointer (some ⟨r101, 0, none⟩))), (7, Pt 8 0), (8, V (.slice a1 lines.length c1)), (9, I ((lines.length : Nat) : Int)), (10, I x_114), (14, V (.slice a118 (gi lines x_114).length c119)), (15, I (((gi lines x_114).length : Nat) : Int)), (16, I x_132)], [(8, (41, [I ((gi (gi lines x_114) x_132).Line), I ((gi (gi lines x_114) x_132).At), V (.string (bs ((gi (gi lines x_114) x_132).Text)))]))]⟩ ρ a w χ ∧ Old w0 χ0 w χ ∧ BL 90 5 w χ 1004 r101 b_136 ∧ RS (tSlice tToken_Token) w χ a1 lines c1 ∧ RS tToken_Token w χ a118 (gi lines x_114) c119) ?_ ?_
              · refine regP T hS (sp := []) (ks := [3, 7, 8, 9, 10, 14, 15, 16, 22]) (bs := [8]) (sy' := ⟨[(3, V (.pointer (some ⟨r101, 0, none⟩))), (7, Pt 8 0), (8, V (.slice a1 lines.length c1)), (9, I ((lines.length : Nat) : Int)), (10, I x_114), (14, V (.slice a118 (gi lines x_114).length c119)), (15, I (((gi lines x_114).length : Nat) : Int)), (16, I x_132), (22, B (decide (x_132 > 0)))], [(8, (41, [I ((gi (gi lines x_114) x_132).Line), I ((gi (gi lines x_114) x_132).At), V (.string (bs ((gi (gi lines x_114) x_132).Text)))]))]⟩) (by kernel_rfl) ?_
                intro a hS
                refine wcond hS (b := decide (x_132 > 0)) (by kernel_rfl) (fun hb => ?_) (fun hb => ?_)
                · replace hm := hm.1 hb
                  refine region ?_
                  obtain ⟨hq, hm⟩ := hm
                  refine op1 (call hS (by kernel_rfl) (by kernel_rfl) hb57 (by kernel_rfl) (xone_box (by kernel_rfl)) (wb r101 1004 b_128 32 _ _ h129 hq.1 hq.2) ?_)
                  intro v147 a w144 χ145 hE hp hS
                  clear hq
                  clear h129
                  replace hO := hO.mv hE rfl rfl
                  replace h130 := h130.mv hE rfl
                  replace h131 := h131.mv hE rfl
                  clear hE
                  obtain ⟨hp, h146⟩ := hp
                  subst hp
                  refine doneK ?_
                  exact ⟨ρ, _, b_128 ++ [UInt8.ofNat (32 : Int).toNat], hm, hS.sel [3, 7, 8, 9, 10, 14, 15, 16] [8] (by kernel_rfl), hO, h146, h130, h131⟩
                · replace hm := hm.2 hb
                  refine wskip ?_
                  exact ⟨ρ, _, b_128, hm, hS.sel [3, 7, 8, 9, 10, 14, 15, 16] [8] (by kernel_rfl), hO, h129, h130, h131⟩
              · rintro a w149 ⟨ρ, χ148, b_136, hm, hS, hO, h137, h138, h139⟩
                unfold VC22_J3 at hm
                refine region ?_
                refine opsP T hS 2 (sp := []) (ks := [3, 8, 9, 10, 14, 15, 16, 25]) (bs := []) (sy' := ⟨[(3, V (.pointer (some ⟨r101, 0, none⟩))), (8, V (.slice a1 lines.length c1)), (9, I ((lines.length : Nat) : Int)), (10, I x_114), (14, V (.slice a118 (gi lines x_114).length c119)), (15, I (((gi lines x_114).length : Nat) : Int)), (16, I x_132), (25, V (.string (bs ((gi (gi lines x_114) x_132).Text))))], []⟩) (by kernel_rfl) ?_
                intro a hS
                obtain ⟨hq, hm⟩ := hm
                refine op1 (call hS (by kernel_rfl) (by kernel_rfl) hb58 (by kernel_rfl) (xone_box (by kernel_rfl)) (ws r101 1004 b_136 ((gi (gi lines x_114) x_132).Text) _ _ h137 hq) ?_)
                intro v143 a w140 χ141 hE hp hS
                clear hq
                clear h137
                replace hO := hO.mv hE rfl rfl
                replace h138 := h138.mv hE rfl
                replace h139 := h139.mv hE rfl
                clear hE
                obtain ⟨hp, h142⟩ := hp
                subst hp
                refine doneK ?_
                refine region (endP T hS (sp := []) (ks := [3, 8, 9, 10, 14, 15, 16]) (bs := []) (sy' := ⟨[(3, V (.pointer (some ⟨r101, 0, none⟩))), (8, V (.slice a1 lines.length c1)), (9, I ((lines.length : Nat) : Int)), (10, I x_114), (14, V (.slice a118 (gi lines x_114).length c119)), (15, I (((gi lines x_114).length : Nat) : Int)), (16, I (IntKind.i64.wrap (x_132 + 1)))], []⟩) (by kernel_rfl) ?_)
                intro a hS
                exact ⟨⟨b_136 ++ ((gi (gi lines x_114) x_132).Text), IntKind.i64.wrap (x_132 + 1)⟩, ⟨ρ, _, hm.1, hS.sel [3, 8, 9, 10, 14, 15, 16] [] (by kernel_rfl), hO, h142, h138, h139⟩, hm.2⟩
            · replace hm := hm.2 hb
              refine wexit (by rfl) ?_
              exact ⟨ρ, _, b_128, hm, hS.sel [3, 8, 9, 10] [] (by kernel_rfl), hO, h129, h130⟩
        · rintro a w155 ⟨ρ, χ154, b_121, hm, hS, hO, h122, h123⟩
          unfold VC22_J2 at hm
          refine region ?_
          obtain ⟨hq, hm⟩ := hm
          refine op1 (call hS (by kernel_rfl) (by kernel_rfl) hb57 (by kernel_rfl) (xone_box (by kernel_rfl)) (wb r101 1004 b_121 10 _ _ h122 hq.1 hq.2) ?_)
          intro v127 a w124 χ125 hE hp hS
          clear hq
          clear h122
          replace hO := hO.mv hE rfl rfl
          replace h123 := h123.mv hE rfl
          clear hE
          obtain ⟨hp, h126⟩ := hp
          subst hp
          refine doneK ?_
          refine region (endP T hS (sp := []) (ks := [3, 8, 9, 10]) (bs := []) (sy' := ⟨[(3, V (.pointer (some ⟨r101, 0, none⟩))), (8, V (.slice a1 lines.length c1)), (9, I ((lines.length : Nat) : Int)), (10, I (IntKind.i64.wrap (x_114 + 1)))], []⟩) (by kernel_rfl) ?_)
          intro a hS
          exact ⟨⟨b_121 ++ [UInt8.ofNat (10 : Int).toNat], IntKind.i64.wrap (x_114 + 1)⟩, ⟨ρ, _, hm.1, hS.sel [3, 8, 9, 10] [] (by kernel_rfl), hO, h126, h123⟩, hm.2⟩
      · replace hm := hm.2 hb
        refine wexit (by rfl) ?_
        exact ⟨ρ, _, b_111, hm, hS.sel [3] [] (by kernel_rfl), hO, h112⟩
  · rintro a w159 ⟨ρ, χ158, b_105, hm, hS, hO, h106⟩
    unfold VC22_J1 at hm
    refine regO ?_
    refine op1 (call hS (by kernel_rfl) (by kernel_rfl) hb59 (by kernel_rfl) (xone_box (by kernel_rfl)) (st r101 1004 b_105 _ _ h106) ?_)
    intro v110 a w107 χ108 hE hp hS
    clear h106
    replace hO := hO.mv hE rfl rfl
    clear hE
    subst hp
    refine endP T hS (sp := []) (ks := [2]) (bs := []) (sy' := ⟨[(2, V (.string (bs b_105)))], []⟩) (by kernel_rfl) ?_
    intro a hS
    refine wret ?_
    exact fin T hS hO (fun c => c) rfl (r := [.string (bs b_105)]) (by kernel_rfl) (fun χ' hM hC => ⟨b_105, hm, rfl⟩)
theorem C22 (v : ∀ (lines : List (List Token_Token)), preJ lines → VC22 lines (fun r => r = token_Join lines)) : S22 := by
  intro w χ lines a1 c1   hp h1
  refine (W22 w χ lines a1 c1   _ (v lines hp) h1).mono ?_
  rintro _ _ _ _ ⟨r, rfl, h⟩
  exact h
def S25 : Prop := ∀ (w : World) (χ : Nat → Nat) (s_ : List UInt8) (lo : Int) (hi : Int), preNum s_ lo hi → Ret Tryd.prog 25 #[.string (bs s_), .int .i64 lo, .int .i64 hi] xnone w χ (fun w χ' v => v = .tuple #[.int .i64 ((ref05_Number s_ lo hi).1), .int .i64 ((ref05_Number s_ lo hi).2)])
theorem hb25 : hasBody Tryd.prog 25 = true := by kernel_rfl
/-- replevin/replevinref05.Number -/
theorem W25 (k27 : S27) (w0 : World) (χ0 : Nat → Nat) (s_ : List UInt8) (lo : Int) (hi : Int) (Q : Int × Int → Prop) (hm : VC25 s_ lo hi Q) :
    Ret Tryd.prog 25 #[.string (bs s_), .int .i64 lo, .int .i64 hi] xnone w0 χ0 (fun w χ' v => ∃ r, Q r ∧ v = .tuple #[.int .i64 r.1, .int .i64 r.2]) := by
  unfold VC25 at hm
  refine enter Tryd.func25 rfl (vals := [.string (bs s_), .int .i64 lo, .int .i64 hi]) (by kernel_rfl) ?_
  intro ρ a hS hO hM
  clear hM
  refine regP T hS (sp := []) (ks := [0, 1, 2]) (bs := []) (sy' := ⟨[(0, V (.string (bs s_))), (1, I lo), (2, I hi)], []⟩) (by kernel_rfl) ?_
  intro a hS
  refine regP T hS (sp := []) (ks := [0, 1, 2, 8]) (bs := []) (sy' := ⟨[(0, V (.string (bs s_))), (1, I lo), (2, I hi), (8, I 0)], []⟩) (by kernel_rfl) ?_
  intro a hS
  refine wcut (fun a w => ∃ (ρ : Nat → Nat) (χ : Nat → Nat) (from_101 : Int), VC25_J1 s_ lo hi Q from_101 ∧ St Tryd.f25.ntmps ⟨[(0, V (.string (bs s_))), (1, I lo), (2, I hi), (8, I from_101)], []⟩ ρ a w χ ∧ Old w0 χ0 w χ) ?_ ?_
  · refine wcut (fun a w => ∃ (ρ : Nat → Nat) (χ : Nat → Nat) (x_127 : Bool), VC25_J7 s_ lo hi Q x_127 ∧ St Tryd.f25.ntmps ⟨[(0, V (.string (bs s_))), (1, I lo), (2, I hi), (8, I 0), (20, B x_127)], []⟩ ρ a w χ ∧ Old w0 χ0 w χ) ?_ ?_
    · refine region ?_
      refine opsP T hS 4 (sp := []) (ks := [0, 1, 2, 8, 16]) (bs := []) (sy' := ⟨[(0, V (.string (bs s_))), (1, I lo), (2, I hi), (8, I 0), (16, B (decide (((s_.length : Nat) : Int) > 0)))], []⟩) (by kernel_rfl) ?_
      intro a hS
      rcases Bool.eq_false_or_eq_true (decide (((s_.length : Nat) : Int) > 0)) with hb | hb
      · replace hS := hS.lit (t := 16) (by kernel_rfl) hb
        replace hm := hm.1 hb
        refine opsP T hS 1 (sp := []) (ks := [0, 1, 2, 8, 16, 17]) (bs := []) (sy' := ⟨[(0, V (.string (bs s_))), (1, I lo), (2, I hi), (8, I 0), (16, B true), (17, V (.string (bs s_)))], []⟩) (by kernel_rfl) ?_
        intro a hS
        obtain ⟨hq, hm⟩ := hm
        refine op1 (sindex (k := .i64) T hS (by kernel_rfl) (by kernel_rfl) (by kernel_rfl) (by kernel_rfl) (by kernel_rfl) hq.1 hq.2 ?_)
        intro a hS
        clear hq
        refine endP T hS (sp := []) (ks := [0, 1, 2, 8, 20]) (bs := []) (sy' := ⟨[(0, V (.string (bs s_))), (1, I lo), (2, I hi), (8, I 0), (20, B (((gi s_ 0).toNat : Int) == 45))], []⟩) (by kernel_rfl) ?_
        intro a hS
        exact ⟨ρ, _, (((gi s_ 0).toNat : Int) == 45), hm, hS.sel [0, 1, 2, 8, 20] [] (by kernel_rfl), hO⟩
      · replace hS := hS.lit (t := 16) (by kernel_rfl) hb
        replace hm := hm.2 hb
        refine endP T hS (sp := []) (ks := [0, 1, 2, 8, 20]) (bs := []) (sy' := ⟨[(0, V (.string (bs s_))), (1, I lo), (2, I hi), (8, I 0), (20, B false)], []⟩) (by kernel_rfl) ?_
        intro a hS
        exact ⟨ρ, _, false, hm, hS.sel [0, 1, 2, 8, 20] [] (by kernel_rfl), hO⟩
    · rintro a w129 ⟨ρ, χ128, x_127, hm, hS, hO⟩
      unfold VC25_J7 at hm
      refine wcond hS (b := x_127) (by kernel_rfl) (fun hb => ?_) (fun hb => ?_)
      · replace hm := hm.1 hb
        refine region (endP T hS (sp := []) (ks := [0, 1, 2, 8]) (bs := []) (sy' := ⟨[(0, V (.string (bs s_))), (1, I lo), (2, I hi), (8, I 1)], []⟩) (by kernel_rfl) ?_)
        intro a hS
        exact ⟨ρ, _, 1, hm, hS.sel [0, 1, 2, 8] [] (by kernel_rfl), hO⟩
      · replace hm := hm.2 hb
        refine wskip ?_
        exact ⟨ρ, _, 0, hm, hS.sel [0, 1, 2, 8] [] (by kernel_rfl), hO⟩
  · rintro a w131 ⟨ρ, χ130, from_101, hm, hS, hO⟩
    unfold VC25_J1 at hm
    refine wseq ?_
    refine wcut (fun a w => ∃ (ρ : Nat → Nat) (χ : Nat → Nat) (x_102 : Bool), VC25_J2 s_ lo hi Q from_101 x_102 ∧ St Tryd.f25.ntmps ⟨[(0, V (.string (bs s_))), (1, I lo), (2, I hi), (8, I from_101), (35, B x_102)], []⟩ ρ a w χ ∧ Old w0 χ0 w χ) ?_ ?_
    · refine region ?_
      refine opsP T hS 5 (sp := []) (ks := [0, 1, 2, 8, 25]) (bs := []) (sy' := ⟨[(0, V (.string (bs s_))), (1, I lo), (2, I hi), (8, I from_101), (25, B (from_101 == ((s_.length : Nat) : Int)))], []⟩) (by kernel_rfl) ?_
      intro a hS
      rcases Bool.eq_false_or_eq_true (from_101 == ((s_.length : Nat) : Int)) with hb | hb
      · replace hS := hS.lit (t := 25) (by kernel_rfl) hb
        replace hm := hm.1 hb
        refine endP T hS (sp := []) (ks := [0, 1, 2, 8, 35]) (bs := []) (sy' := ⟨[(0, V (.string (bs s_))), (1, I lo), (2, I hi), (8, I from_101), (35, B true)], []⟩) (by kernel_rfl) ?_
        intro a hS
        exact ⟨ρ, _, true, hm, hS.sel [0, 1, 2, 8, 35] [] (by kernel_rfl), hO⟩
      · replace hS := hS.lit (t := 25) (by kernel_rfl) hb
        replace hm := hm.2 hb
        refine opsP T hS 2 (sp := []) (ks := [0, 1, 2, 8, 25, 26, 27]) (bs := []) (sy' := ⟨[(0, V (.string (bs s_))), (1, I lo), (2, I hi), (8, I from_101), (25, B false), (26, V (.string (bs s_))), (27, I from_101)], []⟩) (by kernel_rfl) ?_
        intro a hS
        obtain ⟨hq, hm⟩ := hm
        refine op1 (sindex (k := .i64) T hS (by kernel_rfl) (by kernel_rfl) (by kernel_rfl) (by kernel_rfl) (by kernel_rfl) hq.1 hq.2 ?_)
        intro a hS
        clear hq
        refine endP T hS (sp := [30]) (ks := [0, 1, 2, 8, 35]) (bs := []) (sy' := ⟨[(0, V (.string (bs s_))), (1, I lo), (2, I hi), (8, I from_101), (35, B ((((gi s_ from_101).toNat : Int) == 48) && (decide (((s_.length : Nat) : Int) > 1))))], []⟩) (by kernel_rfl) ?_
        intro a hS
        exact ⟨ρ, _, ((((gi s_ from_101).toNat : Int) == 48) && (decide (((s_.length : Nat) : Int) > 1))), hm, hS.sel [0, 1, 2, 8, 35] [] (by kernel_rfl), hO⟩
    · rintro a w126 ⟨ρ, χ125, x_102, hm, hS, hO⟩
      unfold VC25_J2 at hm
      refine wcond hS (b := x_102) (by kernel_rfl) (fun hb => ?_) (fun hb => ?_)
      · replace hm := hm.1 hb
        refine regP T hS (sp := []) (ks := [6, 7]) (bs := []) (sy' := ⟨[(6, I 0), (7, I 5)], []⟩) (by kernel_rfl) ?_
        intro a hS
        refine wret ?_
        exact fin T hS hO (fun c => c) rfl (r := [.int .i64 0, .int .i64 5]) (by kernel_rfl) (fun χ' hM hC => ⟨(0, 5), hm, rfl⟩)
      · replace hm := hm.2 hb
        refine wskip ?_
        refine wcut (fun a w => ∃ (ρ : Nat → Nat) (χ : Nat → Nat), VC25_J3 s_ lo hi Q from_101 ∧ St Tryd.f25.ntmps ⟨[(0, V (.string (bs s_))), (1, I lo), (2, I hi), (8, I from_101)], []⟩ ρ a w χ ∧ Old w0 χ0 w χ) ?_ ?_
        · refine regP T hS (sp := []) (ks := [0, 1, 2, 8, 9]) (bs := []) (sy' := ⟨[(0, V (.string (bs s_))), (1, I lo), (2, I hi), (8, I from_101), (9, I from_101)], []⟩) (by kernel_rfl) ?_
          intro a hS
          refine wblock ?_
          obtain ⟨I2, μ2, hm0, hm⟩ := hm
          refine wloop (σ := Int) (fun s a w => ∃ (ρ : Nat → Nat) (χ : Nat → Nat), I2 s ∧ St Tryd.f25.ntmps ⟨[(0, V (.string (bs s_))), (1, I lo), (2, I hi), (8, I from_101), (9, I s)], []⟩ ρ a w χ ∧ Old w0 χ0 w χ) (fun s => μ2 s) (from_101) ?_ ?_
          · exact ⟨ρ, _, hm0, hS.sel [0, 1, 2, 8, 9] [] (by kernel_rfl), hO⟩
          · rintro i_117 a w122 ⟨ρ, χ121, hI, hS, hO⟩
            replace hm := hm i_117 hI
            clear hI hm0
            refine wseq ?_
            refine regP T hS (sp := []) (ks := [0, 1, 2, 8, 9, 40]) (bs := []) (sy' := ⟨[(0, V (.string (bs s_))), (1, I lo), (2, I hi), (8, I from_101), (9, I i_117), (40, B (decide (i_117 < ((s_.length : Nat) : Int))))], []⟩) (by kernel_rfl) ?_
            intro a hS
            refine wcond hS (b := decide (i_117 < ((s_.length : Nat) : Int))) (by kernel_rfl) (fun hb => ?_) (fun hb => ?_)
            · replace hm := hm.1 hb
              refine wskip ?_
              refine wseq ?_
              refine wblock ?_
              refine wcut (fun a w => ∃ (ρ : Nat → Nat) (χ : Nat → Nat) (x_118 : Bool), VC25_J6 Q I2 μ2 i_117 x_118 ∧ St Tryd.f25.ntmps ⟨[(0, V (.string (bs s_))), (1, I lo), (2, I hi), (8, I from_101), (9, I i_117), (52, B x_118)], []⟩ ρ a w χ ∧ Old w0 χ0 w χ) ?_ ?_
              · refine region ?_
                refine opsP T hS 2 (sp := []) (ks := [0, 1, 2, 8, 9, 43, 44]) (bs := []) (sy' := ⟨[(0, V (.string (bs s_))), (1, I lo), (2, I hi), (8, I from_101), (9, I i_117), (43, V (.string (bs s_))), (44, I i_117)], []⟩) (by kernel_rfl) ?_
                intro a hS
                obtain ⟨hq, hm⟩ := hm
                refine op1 (sindex (k := .i64) T hS (by kernel_rfl) (by kernel_rfl) (by kernel_rfl) (by kernel_rfl) (by kernel_rfl) hq.1 hq.2 ?_)
                intro a hS
                clear hq
                refine opsP T hS 2 (sp := []) (ks := [0, 1, 2, 8, 9, 47]) (bs := []) (sy' := ⟨[(0, V (.string (bs s_))), (1, I lo), (2, I hi), (8, I from_101), (9, I i_117), (47, B (decide (((gi s_ i_117).toNat : Int) < 48)))], []⟩) (by kernel_rfl) ?_
                intro a hS
                rcases Bool.eq_false_or_eq_true (decide (((gi s_ i_117).toNat : Int) < 48)) with hb | hb
                · replace hS := hS.lit (t := 47) (by kernel_rfl) hb
                  replace hm := hm.1 hb
                  refine endP T hS (sp := []) (ks := [0, 1, 2, 8, 9, 52]) (bs := []) (sy' := ⟨[(0, V (.string (bs s_))), (1, I lo), (2, I hi), (8, I from_101), (9, I i_117), (52, B true)], []⟩) (by kernel_rfl) ?_
                  intro a hS
                  exact ⟨ρ, _, true, hm, hS.sel [0, 1, 2, 8, 9, 52] [] (by kernel_rfl), hO⟩
                · replace hS := hS.lit (t := 47) (by kernel_rfl) hb
                  replace hm := hm.2 hb
                  refine opsP T hS 2 (sp := []) (ks := [0, 1, 2, 8, 9, 47, 48, 49]) (bs := []) (sy' := ⟨[(0, V (.string (bs s_))), (1, I lo), (2, I hi), (8, I from_101), (9, I i_117), (47, B false), (48, V (.string (bs s_))), (49, I i_117)], []⟩) (by kernel_rfl) ?_
                  intro a hS
                  obtain ⟨hq, hm⟩ := hm
                  refine op1 (sindex (k := .i64) T hS (by kernel_rfl) (by kernel_rfl) (by kernel_rfl) (by kernel_rfl) (by kernel_rfl) hq.1 hq.2 ?_)
                  intro a hS
                  clear hq
                  refine endP T hS (sp := []) (ks := [0, 1, 2, 8, 9, 48, 49, 50, 51, 52]) (bs := []) (sy' := ⟨[(0, V (.string (bs s_))), (1, I lo), (2, I hi), (8, I from_101), (9, I i_117), (48, V (.string (bs s_))), (49, I i_117), (50, V (.int .u8 ((gi s_ i_117).toNat : Int))), (51, B (decide (((gi s_ i_117).toNat : Int) > 57))), (52, B (decide (((gi s_ i_117).toNat : Int) > 57)))], []⟩) (by kernel_rfl) ?_
                  intro a hS
                  exact ⟨ρ, _, decide (((gi s_ i_117).toNat : Int) > 57), hm, hS.sel [0, 1, 2, 8, 9, 52] [] (by kernel_rfl), hO⟩
              · rintro a w120 ⟨ρ, χ119, x_118, hm, hS, hO⟩
                unfold VC25_J6 at hm
                refine wcond hS (b := x_118) (by kernel_rfl) (fun hb => ?_) (fun hb => ?_)
                · replace hm := hm.1 hb
                  refine regP T hS (sp := []) (ks := [6, 7]) (bs := []) (sy' := ⟨[(6, I 0), (7, I 5)], []⟩) (by kernel_rfl) ?_
                  intro a hS
                  refine wret ?_
                  exact fin T hS hO (fun c => c) rfl (r := [.int .i64 0, .int .i64 5]) (by kernel_rfl) (fun χ' hM hC => ⟨(0, 5), hm, rfl⟩)
                · replace hm := hm.2 hb
                  refine wskip ?_
                  refine region (endP T hS (sp := []) (ks := [0, 1, 2, 8, 9]) (bs := []) (sy' := ⟨[(0, V (.string (bs s_))), (1, I lo), (2, I hi), (8, I from_101), (9, I (IntKind.i64.wrap (i_117 + 1)))], []⟩) (by kernel_rfl) ?_)
                  intro a hS
                  exact ⟨IntKind.i64.wrap (i_117 + 1), ⟨ρ, _, hm.1, hS.sel [0, 1, 2, 8, 9] [] (by kernel_rfl), hO⟩, hm.2⟩
            · replace hm := hm.2 hb
              refine wexit (by rfl) ?_
              exact ⟨ρ, _, hm, hS.sel [0, 1, 2, 8] [] (by kernel_rfl), hO⟩
        · rintro a w124 ⟨ρ, χ123, hm, hS, hO⟩
          unfold VC25_J3 at hm
          refine wseq ?_
          refine regP T hS (sp := []) (ks := [0, 1, 2, 8, 57]) (bs := []) (sy' := ⟨[(0, V (.string (bs s_))), (1, I lo), (2, I hi), (8, I from_101), (57, B (decide ((IntKind.i64.wrap (((s_.length : Nat) : Int) - from_101)) > 19)))], []⟩) (by kernel_rfl) ?_
          intro a hS
          refine wcond hS (b := decide ((IntKind.i64.wrap (((s_.length : Nat) : Int) - from_101)) > 19)) (by kernel_rfl) (fun hb => ?_) (fun hb => ?_)
          · replace hm := hm.1 hb
            refine regP T hS (sp := []) (ks := [6, 7]) (bs := []) (sy' := ⟨[(6, I 0), (7, I 7)], []⟩) (by kernel_rfl) ?_
            intro a hS
            refine wret ?_
            exact fin T hS hO (fun c => c) rfl (r := [.int .i64 0, .int .i64 7]) (by kernel_rfl) (fun χ' hM hC => ⟨(0, 7), hm, rfl⟩)
          · replace hm := hm.2 hb
            refine wskip ?_
            refine regP T hS (sp := []) (ks := [0, 1, 2, 8, 10]) (bs := []) (sy' := ⟨[(0, V (.string (bs s_))), (1, I lo), (2, I hi), (8, I from_101), (10, I 0)], []⟩) (by kernel_rfl) ?_
            intro a hS
            refine wcut (fun a w => ∃ (ρ : Nat → Nat) (χ : Nat → Nat) (n_103 : Int), VC25_J4 s_ lo hi Q n_103 ∧ St Tryd.f25.ntmps ⟨[(0, V (.string (bs s_))), (1, I lo), (2, I hi), (10, I n_103)], []⟩ ρ a w χ ∧ Old w0 χ0 w χ) ?_ ?_
            · refine regP T hS (sp := []) (ks := [0, 1, 2, 8, 10, 11]) (bs := []) (sy' := ⟨[(0, V (.string (bs s_))), (1, I lo), (2, I hi), (8, I from_101), (10, I 0), (11, I from_101)], []⟩) (by kernel_rfl) ?_
              intro a hS
              refine wblock ?_
              obtain ⟨I1, μ1, hm0, hm⟩ := hm
              refine wloop (σ := Int × Int) (fun s a w => ∃ (ρ : Nat → Nat) (χ : Nat → Nat), I1 s.1 s.2 ∧ St Tryd.f25.ntmps ⟨[(0, V (.string (bs s_))), (1, I lo), (2, I hi), (8, I from_101), (10, I s.1), (11, I s.2)], []⟩ ρ a w χ ∧ Old w0 χ0 w χ) (fun s => μ1 s.1 s.2) (⟨0, from_101⟩) ?_ ?_
              · exact ⟨ρ, _, hm0, hS.sel [0, 1, 2, 8, 10, 11] [] (by kernel_rfl), hO⟩
              · rintro ⟨n_108, i_109⟩ a w114 ⟨ρ, χ113, hI, hS, hO⟩
                replace hm := hm n_108 i_109 hI
                clear hI hm0
                refine wseq ?_
                refine regP T hS (sp := []) (ks := [0, 1, 2, 8, 10, 11, 62]) (bs := []) (sy' := ⟨[(0, V (.string (bs s_))), (1, I lo), (2, I hi), (8, I from_101), (10, I n_108), (11, I i_109), (62, B (decide (i_109 < ((s_.length : Nat) : Int))))], []⟩) (by kernel_rfl) ?_
                intro a hS
                refine wcond hS (b := decide (i_109 < ((s_.length : Nat) : Int))) (by kernel_rfl) (fun hb => ?_) (fun hb => ?_)
                · replace hm := hm.1 hb
                  refine wskip ?_
                  refine wseq ?_
                  refine wblock ?_
                  refine regO ?_
                  refine opsP T hS 2 (sp := []) (ks := [0, 1, 2, 8, 10, 11, 65, 66]) (bs := []) (sy' := ⟨[(0, V (.string (bs s_))), (1, I lo), (2, I hi), (8, I from_101), (10, I n_108), (11, I i_109), (65, V (.string (bs s_))), (66, I i_109)], []⟩) (by kernel_rfl) ?_
                  intro a hS
                  obtain ⟨hq, hm⟩ := hm
                  refine op1 (sindex (k := .i64) T hS (by kernel_rfl) (by kernel_rfl) (by kernel_rfl) (by kernel_rfl) (by kernel_rfl) hq.1 hq.2 ?_)
                  intro a hS
                  clear hq
                  refine endP T hS (sp := []) (ks := [0, 1, 2, 8, 10, 11, 12]) (bs := []) (sy' := ⟨[(0, V (.string (bs s_))), (1, I lo), (2, I hi), (8, I from_101), (10, I n_108), (11, I i_109), (12, I (IntKind.i64.wrap ((IntKind.i64.wrap ((gi s_ i_109).toNat : Int)) - 48)))], []⟩) (by kernel_rfl) ?_
                  intro a hS
                  refine wcut (fun a w => ∃ (ρ : Nat → Nat) (χ : Nat → Nat) (d_110 : Int), VC25_J5 I1 μ1 n_108 i_109 d_110 ∧ St Tryd.f25.ntmps ⟨[(0, V (.string (bs s_))), (1, I lo), (2, I hi), (8, I from_101), (10, I n_108), (11, I i_109), (12, I d_110)], []⟩ ρ a w χ ∧ Old w0 χ0 w χ) ?_ ?_
                  · refine regP T hS (sp := []) (ks := [0, 1, 2, 8, 10, 11, 12, 71]) (bs := []) (sy' := ⟨[(0, V (.string (bs s_))), (1, I lo), (2, I hi), (8, I from_101), (10, I n_108), (11, I i_109), (12, I (IntKind.i64.wrap ((IntKind.i64.wrap ((gi s_ i_109).toNat : Int)) - 48))), (71, B (from_101 == 1))], []⟩) (by kernel_rfl) ?_
                    intro a hS
                    refine wcond hS (b := (from_101 == 1)) (by kernel_rfl) (fun hb => ?_) (fun hb => ?_)
                    · replace hm := hm.1 hb
                      refine region (endP T hS (sp := []) (ks := [0, 1, 2, 8, 10, 11, 12]) (bs := []) (sy' := ⟨[(0, V (.string (bs s_))), (1, I lo), (2, I hi), (8, I from_101), (10, I n_108), (11, I i_109), (12, I (IntKind.i64.wrap (0 - (IntKind.i64.wrap ((IntKind.i64.wrap ((gi s_ i_109).toNat : Int)) - 48)))))], []⟩) (by kernel_rfl) ?_)
                      intro a hS
                      exact ⟨ρ, _, IntKind.i64.wrap (0 - (IntKind.i64.wrap ((IntKind.i64.wrap ((gi s_ i_109).toNat : Int)) - 48))), hm, hS.sel [0, 1, 2, 8, 10, 11, 12] [] (by kernel_rfl), hO⟩
                    · replace hm := hm.2 hb
                      refine wskip ?_
                      exact ⟨ρ, _, IntKind.i64.wrap ((IntKind.i64.wrap ((gi s_ i_109).toNat : Int)) - 48), hm, hS.sel [0, 1, 2, 8, 10, 11, 12] [] (by kernel_rfl), hO⟩
                  · rintro a w112 ⟨ρ, χ111, d_110, hm, hS, hO⟩
                    unfold VC25_J5 at hm
                    refine region (endP T hS (sp := []) (ks := [0, 1, 2, 8, 10, 11]) (bs := []) (sy' := ⟨[(0, V (.string (bs s_))), (1, I lo), (2, I hi), (8, I from_101), (10, I (IntKind.i64.wrap ((IntKind.i64.wrap (10 * n_108)) + d_110))), (11, I i_109)], []⟩) (by kernel_rfl) ?_)
                    intro a hS
                    refine region (endP T hS (sp := []) (ks := [0, 1, 2, 8, 10, 11]) (bs := []) (sy' := ⟨[(0, V (.string (bs s_))), (1, I lo), (2, I hi), (8, I from_101), (10, I (IntKind.i64.wrap ((IntKind.i64.wrap (10 * n_108)) + d_110))), (11, I (IntKind.i64.wrap (i_109 + 1)))], []⟩) (by kernel_rfl) ?_)
                    intro a hS
                    exact ⟨⟨IntKind.i64.wrap ((IntKind.i64.wrap (10 * n_108)) + d_110), IntKind.i64.wrap (i_109 + 1)⟩, ⟨ρ, _, hm.1, hS.sel [0, 1, 2, 8, 10, 11] [] (by kernel_rfl), hO⟩, hm.2⟩
                · replace hm := hm.2 hb
                  refine wexit (by rfl) ?_
                  exact ⟨ρ, _, n_108, hm, hS.sel [0, 1, 2, 10] [] (by kernel_rfl), hO⟩
            · rintro a w116 ⟨ρ, χ115, n_103, hm, hS, hO⟩
              unfold VC25_J4 at hm
              refine wseq ?_
              refine regO ?_
              refine opsP T hS 1 (sp := []) (ks := [0, 1, 2, 10, 78]) (bs := []) (sy' := ⟨[(0, V (.string (bs s_))), (1, I lo), (2, I hi), (10, I n_103), (78, I n_103)], []⟩) (by kernel_rfl) ?_
              intro a hS
              obtain ⟨hq, hm⟩ := hm
              refine op1 (call hS (by kernel_rfl) (by kernel_rfl) hb27 (by kernel_rfl) (fun _ _ => rfl) (k27 _ _ n_103 hq) ?_)
              intro v104 a w105 χ106 hE hp hS
              clear hq
              replace hO := hO.mv hE rfl rfl
              clear hE
              obtain ⟨r107, hr⟩ : ∃ r, ref05_Digits n_103 = r := ⟨_, rfl⟩
              replace hm := hm r107 hr
              rw [hr] at hp
              clear hr
              subst hp
              refine endP T hS (sp := [82, 87]) (ks := [10, 91]) (bs := []) (sy' := ⟨[(10, I n_103), (91, B (((!(r107 == s_)) || (decide (n_103 < lo))) || (decide (n_103 > hi))))], []⟩) (by kernel_rfl) ?_
              intro a hS
              refine wcond hS (b := (((!(r107 == s_)) || (decide (n_103 < lo))) || (decide (n_103 > hi)))) (by kernel_rfl) (fun hb => ?_) (fun hb => ?_)
              · replace hm := hm.1 hb
                refine regP T hS (sp := []) (ks := [6, 7]) (bs := []) (sy' := ⟨[(6, I 0), (7, I 7)], []⟩) (by kernel_rfl) ?_
                intro a hS
                refine wret ?_
                exact fin T hS hO (fun c => c) rfl (r := [.int .i64 0, .int .i64 7]) (by kernel_rfl) (fun χ' hM hC => ⟨(0, 7), hm, rfl⟩)
              · replace hm := hm.2 hb
                refine wskip ?_
                refine regP T hS (sp := []) (ks := [6, 7]) (bs := []) (sy' := ⟨[(6, I n_103), (7, I 0)], []⟩) (by kernel_rfl) ?_
                intro a hS
                refine wret ?_
                exact fin T hS hO (fun c => c) rfl (r := [.int .i64 n_103, .int .i64 0]) (by kernel_rfl) (fun χ' hM hC => ⟨(n_103, 0), hm, rfl⟩)
theorem C25 (k27 : S27) (v : ∀ (s_ : List UInt8) (lo : Int) (hi : Int), preNum s_ lo hi → VC25 s_ lo hi (fun r => r = ref05_Number s_ lo hi)) : S25 := by
  intro w χ s_ lo hi    hp 
  refine (W25 k27 w χ s_ lo hi    _ (v s_ lo hi hp)).mono ?_
  rintro _ _ _ _ ⟨r, rfl, h⟩
  exact h
def S15 : Prop := ∀ (w : World) (χ : Nat → Nat), Amb w χ → Ret Tryd.prog 15 #[] xnone w χ (fun w χ' v => v = .bool law05_awake)
theorem hb15 : hasBody Tryd.prog 15 = true := by kernel_rfl
/-- replevin/replevinlaw05.awake -/
theorem W15 (k16 : S16) (k20 : S20) (k22 : S22) (k24 : S24) (k26 : S26) (w0 : World) (χ0 : Nat → Nat) (Q : Bool → Prop) (hm : VC15 Q) (hAmb : Amb w0 χ0) :
    Ret Tryd.prog 15 #[] xnone w0 χ0 (fun w χ' v => ∃ r, Q r ∧ v = .bool r) := by
  unfold VC15 at hm
  refine enter Tryd.func15 rfl (vals := []) (by kernel_rfl) ?_
  intro ρ a hS hO hM
  replace hAmb := hAmb.m0 hM
  clear hM
  refine regP T hS (sp := []) (ks := []) (bs := []) (sy' := ⟨[], []⟩) (by kernel_rfl) ?_
  intro a hS
  refine regO ?_
  obtain ⟨hq, hm⟩ := hm
  refine op1 (call hS (by kernel_rfl) (by kernel_rfl) hb16 (by kernel_rfl) (fun _ _ => rfl) (k16 _ _ ([112, 32, 49, 50, 10, 99, 32, 110, 111, 10, 9, 120, 13] : List UInt8) hq) ?_)
  intro v101 a w102 χ103 hE hp hS
  clear hq
  replace hO := hO.mv hE rfl rfl
  replace hAmb := hAmb.mv hE rfl
  clear hE
  obtain ⟨a105, c106, hp, h107⟩ := hp
  obtain ⟨r104, hr⟩ : ∃ r, token_Lines ([112, 32, 49, 50, 10, 99, 32, 110, 111, 10, 9, 120, 13] : List UInt8) = r := ⟨_, rfl⟩
  replace hm := hm r104 hr
  rw [hr] at hp h107
  clear hr
  subst hp
  replace hm := hm (h107.sm (by kernel_rfl))
  refine endP T hS (sp := []) (ks := [1]) (bs := []) (sy' := ⟨[(1, V (.slice a105 r104.length c106))], []⟩) (by kernel_rfl) ?_
  intro a hS
  refine regO ?_
  obtain ⟨hq, hm⟩ := hm
  refine op1 (call hS (by kernel_rfl) (by kernel_rfl) hb24 (by kernel_rfl) (fun _ _ => rfl) (k24 _ _ ([45, 49, 50] : List UInt8) (-20) 20 hq) ?_)
  intro v108 a w109 χ110 hE hp hS
  clear hq
  replace hO := hO.mv hE rfl rfl
  replace hAmb := hAmb.mv hE rfl
  replace h107 := h107.mv hE rfl
  clear hE
  obtain ⟨r111, hr⟩ : ∃ r, token_Number ([45, 49, 50] : List UInt8) (-20) 20 = r := ⟨_, rfl⟩
  replace hm := hm r111 hr
  rw [hr] at hp
  clear hr
  subst hp
  refine endP T hS (sp := []) (ks := [1, 2, 3]) (bs := []) (sy' := ⟨[(1, V (.slice a105 r104.length c106)), (2, I r111.1), (3, I r111.2)], []⟩) (by kernel_rfl) ?_
  intro a hS
  refine regO ?_
  obtain ⟨hq, hm⟩ := hm
  refine op1 (call hS (by kernel_rfl) (by kernel_rfl) hb24 (by kernel_rfl) (fun _ _ => rfl) (k24 _ _ ([48, 48, 55] : List UInt8) 0 9 hq) ?_)
  intro v112 a w113 χ114 hE hp hS
  clear hq
  replace hO := hO.mv hE rfl rfl
  replace hAmb := hAmb.mv hE rfl
  replace h107 := h107.mv hE rfl
  clear hE
  obtain ⟨r115, hr⟩ : ∃ r, token_Number ([48, 48, 55] : List UInt8) 0 9 = r := ⟨_, rfl⟩
  replace hm := hm r115 hr
  rw [hr] at hp
  clear hr
  subst hp
  refine endP T hS (sp := []) (ks := [1, 2, 3, 5]) (bs := []) (sy' := ⟨[(1, V (.slice a105 r104.length c106)), (2, I r111.1), (3, I r111.2), (5, I r115.2)], []⟩) (by kernel_rfl) ?_
  intro a hS
  refine regO ?_
  obtain ⟨hq, hm⟩ := hm
  refine op1 (call hS (by kernel_rfl) (by kernel_rfl) hb24 (by kernel_rfl) (fun _ _ => rfl) (k24 _ _ ([57, 57, 57, 57, 57, 57, 57, 57, 57, 57, 57, 57, 57, 57, 57, 57, 57, 57, 57, 57, 57, 57, 57] : List UInt8) 0 9 hq) ?_)
  intro v116 a w117 χ118 hE hp hS
  clear hq
  replace hO := hO.mv hE rfl rfl
  replace hAmb := hAmb.mv hE rfl
  replace h107 := h107.mv hE rfl
  clear hE
  obtain ⟨r119, hr⟩ : ∃ r, token_Number ([57, 57, 57, 57, 57, 57, 57, 57, 57, 57, 57, 57, 57, 57, 57, 57, 57, 57, 57, 57, 57, 57, 57] : List UInt8) 0 9 = r := ⟨_, rfl⟩
  replace hm := hm r119 hr
  rw [hr] at hp
  clear hr
  subst hp
  refine endP T hS (sp := []) (ks := [1, 2, 3, 5, 7]) (bs := []) (sy' := ⟨[(1, V (.slice a105 r104.length c106)), (2, I r111.1), (3, I r111.2), (5, I r115.2), (7, I r119.2)], []⟩) (by kernel_rfl) ?_
  intro a hS
  refine regO ?_
  obtain ⟨hq, hm⟩ := hm
  refine op1 (call hS (by kernel_rfl) (by kernel_rfl) hb24 (by kernel_rfl) (fun _ _ => rfl) (k24 _ _ ([50, 49] : List UInt8) (-20) 20 hq) ?_)
  intro v120 a w121 χ122 hE hp hS
  clear hq
  replace hO := hO.mv hE rfl rfl
  replace hAmb := hAmb.mv hE rfl
  replace h107 := h107.mv hE rfl
  clear hE
  obtain ⟨r123, hr⟩ : ∃ r, token_Number ([50, 49] : List UInt8) (-20) 20 = r := ⟨_, rfl⟩
  replace hm := hm r123 hr
  rw [hr] at hp
  clear hr
  subst hp
  refine endP T hS (sp := []) (ks := [1, 2, 3, 5, 7, 9]) (bs := []) (sy' := ⟨[(1, V (.slice a105 r104.length c106)), (2, I r111.1), (3, I r111.2), (5, I r115.2), (7, I r119.2), (9, I r123.2)], []⟩) (by kernel_rfl) ?_
  intro a hS
  refine wseq ?_
  refine wcut (fun a w => ∃ (ρ : Nat → Nat) (χ : Nat → Nat) (x_125 : Bool), VC15_J1 Q r104 r111 r115 r119 r123 x_125 ∧ St Tryd.f15.ntmps ⟨[(1, V (.slice a105 r104.length c106)), (2, I r111.1), (3, I r111.2), (5, I r115.2), (7, I r119.2), (9, I r123.2), (50, B x_125)], []⟩ ρ a w χ ∧ Old w0 χ0 w χ ∧ RS (tSlice tToken_Token) w χ a105 r104 c106 ∧ Amb w χ) ?_ ?_
  · refine region ?_
    refine opsP T hS 4 (sp := []) (ks := [1, 2, 3, 5, 7, 9, 30]) (bs := []) (sy' := ⟨[(1, V (.slice a105 r104.length c106)), (2, I r111.1), (3, I r111.2), (5, I r115.2), (7, I r119.2), (9, I r123.2), (30, B (((r104.length : Nat) : Int) != 3))], []⟩) (by kernel_rfl) ?_
    intro a hS
    rcases Bool.eq_false_or_eq_true (((r104.length : Nat) : Int) != 3) with hb | hb
    · replace hS := hS.lit (t := 30) (by kernel_rfl) hb
      replace hm := hm.1 hb
      refine endP T hS (sp := []) (ks := [1, 2, 3, 5, 7, 9, 50]) (bs := []) (sy' := ⟨[(1, V (.slice a105 r104.length c106)), (2, I r111.1), (3, I r111.2), (5, I r115.2), (7, I r119.2), (9, I r123.2), (50, B true)], []⟩) (by kernel_rfl) ?_
      intro a hS
      exact ⟨ρ, _, true, hm, hS.sel [1, 2, 3, 5, 7, 9, 50] [] (by kernel_rfl), hO, h107, hAmb⟩
    · replace hS := hS.lit (t := 30) (by kernel_rfl) hb
      replace hm := hm.2 hb
      refine opsP T hS 1 (sp := []) (ks := [1, 2, 3, 5, 7, 9, 30, 31]) (bs := []) (sy' := ⟨[(1, V (.slice a105 r104.length c106)), (2, I r111.1), (3, I r111.2), (5, I r115.2), (7, I r119.2), (9, I r123.2), (30, B false), (31, V (.slice a105 r104.length c106))], []⟩) (by kernel_rfl) ?_
      intro a hS
      obtain ⟨hq, hm⟩ := hm
      refine op1 (index (e := 39) (k := .i64) T hS (by kernel_rfl) (by kernel_rfl) (by kernel_rfl) (by kernel_rfl) h107 (by kernel_rfl) (by kernel_rfl) hq.1 hq.2 ?_)
      intro A160 a h161 hS
      clear hq
      refine op1 (load1 T hS (by kernel_rfl) (by kernel_rfl) (by kernel_rfl) h161 rfl (by kernel_rfl) ?_)
      intro v162 a hv hS
      obtain ⟨a163, c164, hv, h165⟩ := hv
      cases hv
      replace hm := hm (h165.sm (by kernel_rfl))
      refine opsP T hS 4 (sp := []) (ks := [1, 2, 3, 5, 7, 9, 37]) (bs := []) (sy' := ⟨[(1, V (.slice a105 r104.length c106)), (2, I r111.1), (3, I r111.2), (5, I r115.2), (7, I r119.2), (9, I r123.2), (37, B ((((gi r104 0).length : Nat) : Int) != 2))], []⟩) (by kernel_rfl) ?_
      intro a hS
      rcases Bool.eq_false_or_eq_true ((((gi r104 0).length : Nat) : Int) != 2) with hb | hb
      · replace hS := hS.lit (t := 37) (by kernel_rfl) hb
        replace hm := hm.1 hb
        refine endP T hS (sp := []) (ks := [1, 2, 3, 5, 7, 9, 50]) (bs := []) (sy' := ⟨[(1, V (.slice a105 r104.length c106)), (2, I r111.1), (3, I r111.2), (5, I r115.2), (7, I r119.2), (9, I r123.2), (50, B true)], []⟩) (by kernel_rfl) ?_
        intro a hS
        exact ⟨ρ, _, true, hm, hS.sel [1, 2, 3, 5, 7, 9, 50] [] (by kernel_rfl), hO, h107, hAmb⟩
      · replace hS := hS.lit (t := 37) (by kernel_rfl) hb
        replace hm := hm.2 hb
        refine opsP T hS 1 (sp := []) (ks := [1, 2, 3, 5, 7, 9, 37, 38]) (bs := []) (sy' := ⟨[(1, V (.slice a105 r104.length c106)), (2, I r111.1), (3, I r111.2), (5, I r115.2), (7, I r119.2), (9, I r123.2), (37, B false), (38, V (.slice a105 r104.length c106))], []⟩) (by kernel_rfl) ?_
        intro a hS
        obtain ⟨hq, hm⟩ := hm
        refine op1 (index (e := 39) (k := .i64) T hS (by kernel_rfl) (by kernel_rfl) (by kernel_rfl) (by kernel_rfl) h107 (by kernel_rfl) (by kernel_rfl) hq.1 hq.2 ?_)
        intro A166 a h167 hS
        clear hq
        refine op1 (load1 T hS (by kernel_rfl) (by kernel_rfl) (by kernel_rfl) h167 rfl (by kernel_rfl) ?_)
        intro v168 a hv hS
        obtain ⟨a169, c170, hv, h171⟩ := hv
        cases hv
        replace hm := hm (h171.sm (by kernel_rfl))
        refine opsP T hS 4 (sp := []) (ks := [1, 2, 3, 5, 7, 9, 44]) (bs := []) (sy' := ⟨[(1, V (.slice a105 r104.length c106)), (2, I r111.1), (3, I r111.2), (5, I r115.2), (7, I r119.2), (9, I r123.2), (44, B ((((gi r104 1).length : Nat) : Int) != 0))], []⟩) (by kernel_rfl) ?_
        intro a hS
        rcases Bool.eq_false_or_eq_true ((((gi r104 1).length : Nat) : Int) != 0) with hb | hb
        · replace hS := hS.lit (t := 44) (by kernel_rfl) hb
          replace hm := hm.1 hb
          refine endP T hS (sp := []) (ks := [1, 2, 3, 5, 7, 9, 50]) (bs := []) (sy' := ⟨[(1, V (.slice a105 r104.length c106)), (2, I r111.1), (3, I r111.2), (5, I r115.2), (7, I r119.2), (9, I r123.2), (50, B true)], []⟩) (by kernel_rfl) ?_
          intro a hS
          exact ⟨ρ, _, true, hm, hS.sel [1, 2, 3, 5, 7, 9, 50] [] (by kernel_rfl), hO, h107, hAmb⟩
        · replace hS := hS.lit (t := 44) (by kernel_rfl) hb
          replace hm := hm.2 hb
          refine opsP T hS 1 (sp := []) (ks := [1, 2, 3, 5, 7, 9, 44, 45]) (bs := []) (sy' := ⟨[(1, V (.slice a105 r104.length c106)), (2, I r111.1), (3, I r111.2), (5, I r115.2), (7, I r119.2), (9, I r123.2), (44, B false), (45, V (.slice a105 r104.length c106))], []⟩) (by kernel_rfl) ?_
          intro a hS
          obtain ⟨hq, hm⟩ := hm
          refine op1 (index (e := 39) (k := .i64) T hS (by kernel_rfl) (by kernel_rfl) (by kernel_rfl) (by kernel_rfl) h107 (by kernel_rfl) (by kernel_rfl) hq.1 hq.2 ?_)
          intro A172 a h173 hS
          clear hq
          refine op1 (load1 T hS (by kernel_rfl) (by kernel_rfl) (by kernel_rfl) h173 rfl (by kernel_rfl) ?_)
          intro v174 a hv hS
          obtain ⟨a175, c176, hv, h177⟩ := hv
          cases hv
          replace hm := hm (h177.sm (by kernel_rfl))
          refine endP T hS (sp := []) (ks := [1, 2, 3, 5, 7, 9, 50]) (bs := []) (sy' := ⟨[(1, V (.slice a105 r104.length c106)), (2, I r111.1), (3, I r111.2), (5, I r115.2), (7, I r119.2), (9, I r123.2), (50, B ((((gi r104 2).length : Nat) : Int) != 1))], []⟩) (by kernel_rfl) ?_
          intro a hS
          exact ⟨ρ, _, ((((gi r104 2).length : Nat) : Int) != 1), hm, hS.sel [1, 2, 3, 5, 7, 9, 50] [] (by kernel_rfl), hO, h107, hAmb⟩
  · rintro a w179 ⟨ρ, χ178, x_125, hm, hS, hO, h124, hAmb⟩
    unfold VC15_J1 at hm
    refine wcond hS (b := x_125) (by kernel_rfl) (fun hb => ?_) (fun hb => ?_)
    · replace hm := hm.1 hb
      refine regP T hS (sp := []) (ks := [0]) (bs := []) (sy' := ⟨[(0, B false)], []⟩) (by kernel_rfl) ?_
      intro a hS
      refine wret ?_
      exact fin T hS hO (fun c => c) rfl (r := [.bool false]) (by kernel_rfl) (fun χ' hM hC => ⟨false, hm, rfl⟩)
    · replace hm := hm.2 hb
      refine wskip ?_
      refine regO ?_
      refine opsP T hS 1 (sp := []) (ks := [1, 2, 3, 5, 7, 9, 51]) (bs := []) (sy' := ⟨[(1, V (.slice a105 r104.length c106)), (2, I r111.1), (3, I r111.2), (5, I r115.2), (7, I r119.2), (9, I r123.2), (51, V (.slice a105 r104.length c106))], []⟩) (by kernel_rfl) ?_
      intro a hS
      obtain ⟨hq, hm⟩ := hm
      refine op1 (index (e := 39) (k := .i64) T hS (by kernel_rfl) (by kernel_rfl) (by kernel_rfl) (by kernel_rfl) h124 (by kernel_rfl) (by kernel_rfl) hq.1 hq.2 ?_)
      intro A126 a h127 hS
      clear hq
      refine op1 (load1 T hS (by kernel_rfl) (by kernel_rfl) (by kernel_rfl) h127 rfl (by kernel_rfl) ?_)
      intro v128 a hv hS
      obtain ⟨a129, c130, hv, h131⟩ := hv
      cases hv
      replace hm := hm (h131.sm (by kernel_rfl))
      obtain ⟨hq, hm⟩ := hm
      refine op1 (index (e := 41) (k := .i64) T hS (by kernel_rfl) (by kernel_rfl) (by kernel_rfl) (by kernel_rfl) h131 (by kernel_rfl) (by kernel_rfl) hq.1 hq.2 ?_)
      intro A132 a h133 hS
      clear hq
      refine op1 (loadA T hS (by kernel_rfl) (by kernel_rfl) (by kernel_rfl) h133 (by kernel_rfl) (by kernel_rfl) ?_)
      intro v134 a hv hS
      subst hv
      refine opsP T hS 1 (sp := []) (ks := [1, 2, 3, 5, 7, 9, 55, 56]) (bs := []) (sy' := ⟨[(1, V (.slice a105 r104.length c106)), (2, I r111.1), (3, I r111.2), (5, I r115.2), (7, I r119.2), (9, I r123.2), (55, V (.agg #[.int .i64 ((gi (gi r104 0) 1).Line), .int .i64 ((gi (gi r104 0) 1).At), .string (bs ((gi (gi r104 0) 1).Text))])), (56, V (.agg #[.int .i64 1, .int .i64 2, .string (bs ([49, 50] : List UInt8))]))], []⟩) (by kernel_rfl) ?_
      intro a hS
      refine op1 (structEq (op := .eql) (xs := [.int .i64 ((gi (gi r104 0) 1).Line), .int .i64 ((gi (gi r104 0) 1).At), .string (bs ((gi (gi r104 0) 1).Text))]) (ys := [.int .i64 1, .int .i64 2, .string (bs ([49, 50] : List UInt8))]) (r := (((gi (gi r104 0) 1).Line) == 1 && (((gi (gi r104 0) 1).At) == 2 && (((gi (gi r104 0) 1).Text) == ([49, 50] : List UInt8) && true)))) (b := (((gi (gi r104 0) 1).Line) == 1 && (((gi (gi r104 0) 1).At) == 2 && (((gi (gi r104 0) 1).Text) == ([49, 50] : List UInt8) && true)))) T hS (by kernel_rfl) (by kernel_rfl) (by kernel_rfl) (by kernel_rfl) (by kernel_rfl) (by kernel_rfl) (by kernel_rfl) (by kernel_rfl) ?_)
      intro a hS
      refine opsP T hS 1 (sp := []) (ks := [1, 2, 3, 5, 7, 9, 58]) (bs := []) (sy' := ⟨[(1, V (.slice a105 r104.length c106)), (2, I r111.1), (3, I r111.2), (5, I r115.2), (7, I r119.2), (9, I r123.2), (58, B (((gi (gi r104 0) 1).Line) == 1 && (((gi (gi r104 0) 1).At) == 2 && (((gi (gi r104 0) 1).Text) == ([49, 50] : List UInt8) && true))))], []⟩) (by kernel_rfl) ?_
      intro a hS
      rcases Bool.eq_false_or_eq_true (((gi (gi r104 0) 1).Line) == 1 && (((gi (gi r104 0) 1).At) == 2 && (((gi (gi r104 0) 1).Text) == ([49, 50] : List UInt8) && true))) with hb | hb
      · replace hS := hS.lit (t := 58) (by kernel_rfl) hb
        replace hm := hm.1 hb
        refine opsP T hS 1 (sp := []) (ks := [1, 2, 3, 5, 7, 9, 58, 59]) (bs := []) (sy' := ⟨[(1, V (.slice a105 r104.length c106)), (2, I r111.1), (3, I r111.2), (5, I r115.2), (7, I r119.2), (9, I r123.2), (58, B true), (59, V (.slice a105 r104.length c106))], []⟩) (by kernel_rfl) ?_
        intro a hS
        obtain ⟨hq, hm⟩ := hm
        refine op1 (index (e := 39) (k := .i64) T hS (by kernel_rfl) (by kernel_rfl) (by kernel_rfl) (by kernel_rfl) h124 (by kernel_rfl) (by kernel_rfl) hq.1 hq.2 ?_)
        intro A135 a h136 hS
        clear hq
        refine op1 (load1 T hS (by kernel_rfl) (by kernel_rfl) (by kernel_rfl) h136 rfl (by kernel_rfl) ?_)
        intro v137 a hv hS
        obtain ⟨a138, c139, hv, h140⟩ := hv
        cases hv
        replace hm := hm (h140.sm (by kernel_rfl))
        obtain ⟨hq, hm⟩ := hm
        refine op1 (index (e := 41) (k := .i64) T hS (by kernel_rfl) (by kernel_rfl) (by kernel_rfl) (by kernel_rfl) h140 (by kernel_rfl) (by kernel_rfl) hq.1 hq.2 ?_)
        intro A141 a h142 hS
        clear hq
        refine op1 (loadA T hS (by kernel_rfl) (by kernel_rfl) (by kernel_rfl) h142 (by kernel_rfl) (by kernel_rfl) ?_)
        intro v143 a hv hS
        subst hv
        refine opsP T hS 1 (sp := []) (ks := [1, 2, 3, 5, 7, 9, 58, 63, 64]) (bs := []) (sy' := ⟨[(1, V (.slice a105 r104.length c106)), (2, I r111.1), (3, I r111.2), (5, I r115.2), (7, I r119.2), (9, I r123.2), (58, B true), (63, V (.agg #[.int .i64 ((gi (gi r104 2) 0).Line), .int .i64 ((gi (gi r104 2) 0).At), .string (bs ((gi (gi r104 2) 0).Text))])), (64, V (.agg #[.int .i64 3, .int .i64 11, .string (bs ([120] : List UInt8))]))], []⟩) (by kernel_rfl) ?_
        intro a hS
        refine op1 (structEq (op := .eql) (xs := [.int .i64 ((gi (gi r104 2) 0).Line), .int .i64 ((gi (gi r104 2) 0).At), .string (bs ((gi (gi r104 2) 0).Text))]) (ys := [.int .i64 3, .int .i64 11, .string (bs ([120] : List UInt8))]) (r := (((gi (gi r104 2) 0).Line) == 3 && (((gi (gi r104 2) 0).At) == 11 && (((gi (gi r104 2) 0).Text) == ([120] : List UInt8) && true)))) (b := (((gi (gi r104 2) 0).Line) == 3 && (((gi (gi r104 2) 0).At) == 11 && (((gi (gi r104 2) 0).Text) == ([120] : List UInt8) && true)))) T hS (by kernel_rfl) (by kernel_rfl) (by kernel_rfl) (by kernel_rfl) (by kernel_rfl) (by kernel_rfl) (by kernel_rfl) (by kernel_rfl) ?_)
        intro a hS
        refine opsP T hS 22 (sp := [67, 71, 75, 79, 83]) (ks := [1, 87]) (bs := []) (sy' := ⟨[(1, V (.slice a105 r104.length c106)), (87, B ((((((((gi (gi r104 2) 0).Line) == 3 && (((gi (gi r104 2) 0).At) == 11 && (((gi (gi r104 2) 0).Text) == ([120] : List UInt8) && true))) && (r111.1 == (-12))) && (r111.2 == 0)) && (r115.2 == 5)) && (r119.2 == 7)) && (r123.2 == 7)))], []⟩) (by kernel_rfl) ?_
        intro a hS
        rcases Bool.eq_false_or_eq_true ((((((((gi (gi r104 2) 0).Line) == 3 && (((gi (gi r104 2) 0).At) == 11 && (((gi (gi r104 2) 0).Text) == ([120] : List UInt8) && true))) && (r111.1 == (-12))) && (r111.2 == 0)) && (r115.2 == 5)) && (r119.2 == 7)) && (r123.2 == 7)) with hb | hb
        · replace hS := hS.lit (t := 87) (by kernel_rfl) hb
          replace hm := hm.1 hb
          obtain ⟨hq, hm⟩ := hm
          refine op1 (call hS (by kernel_rfl) (by kernel_rfl) hb26 (by kernel_rfl) (fun _ _ => rfl) (k26 _ _ (-7) hq hAmb) ?_)
          intro v144 a w145 χ146 hE hp hS
          clear hq
          replace hO := hO.mv hE rfl rfl
          replace h124 := h124.mv hE rfl
          replace hAmb := hAmb.mv hE rfl
          clear hE
          obtain ⟨r147, hr⟩ : ∃ r, token_Digits (-7) = r := ⟨_, rfl⟩
          replace hm := hm r147 hr
          rw [hr] at hp
          clear hr
          subst hp
          refine opsP T hS 3 (sp := []) (ks := [1, 91]) (bs := []) (sy' := ⟨[(1, V (.slice a105 r104.length c106)), (91, B (r147 == ([45, 55] : List UInt8)))], []⟩) (by kernel_rfl) ?_
          intro a hS
          rcases Bool.eq_false_or_eq_true (r147 == ([45, 55] : List UInt8)) with hb | hb
          · replace hS := hS.lit (t := 91) (by kernel_rfl) hb
            replace hm := hm.1 hb
            obtain ⟨hq, hm⟩ := hm
            refine op1 (call hS (by kernel_rfl) (by kernel_rfl) hb20 (by kernel_rfl) (fun _ _ => rfl) (k20 _ _ ([120] : List UInt8) hq) ?_)
            intro v148 a w149 χ150 hE hp hS
            clear hq
            replace hO := hO.mv hE rfl rfl
            replace h124 := h124.mv hE rfl
            replace hAmb := hAmb.mv hE rfl
            clear hE
            obtain ⟨r151, hr⟩ : ∃ r, token_Word ([120] : List UInt8) = r := ⟨_, rfl⟩
            replace hm := hm r151 hr
            rw [hr] at hp
            clear hr
            subst hp
            refine opsP T hS 2 (sp := []) (ks := [1, 94]) (bs := []) (sy' := ⟨[(1, V (.slice a105 r104.length c106)), (94, B r151)], []⟩) (by kernel_rfl) ?_
            intro a hS
            rcases Bool.eq_false_or_eq_true r151 with hb | hb
            · replace hS := hS.lit (t := 94) (by kernel_rfl) hb
              replace hm := hm.1 hb
              obtain ⟨hq, hm⟩ := hm
              refine op1 (call hS (by kernel_rfl) (by kernel_rfl) hb20 (by kernel_rfl) (fun _ _ => rfl) (k20 _ _ ([120, 32, 121] : List UInt8) hq) ?_)
              intro v152 a w153 χ154 hE hp hS
              clear hq
              replace hO := hO.mv hE rfl rfl
              replace h124 := h124.mv hE rfl
              replace hAmb := hAmb.mv hE rfl
              clear hE
              obtain ⟨r155, hr⟩ : ∃ r, token_Word ([120, 32, 121] : List UInt8) = r := ⟨_, rfl⟩
              replace hm := hm r155 hr
              rw [hr] at hp
              clear hr
              subst hp
              refine opsP T hS 3 (sp := []) (ks := [1, 98]) (bs := []) (sy' := ⟨[(1, V (.slice a105 r104.length c106)), (98, B (!r155))], []⟩) (by kernel_rfl) ?_
              intro a hS
              rcases Bool.eq_false_or_eq_true (!r155) with hb | hb
              · replace hS := hS.lit (t := 98) (by kernel_rfl) hb
                replace hm := hm.1 hb
                refine opsP T hS 1 (sp := []) (ks := [98, 99]) (bs := []) (sy' := ⟨[(98, B true), (99, V (.slice a105 r104.length c106))], []⟩) (by kernel_rfl) ?_
                intro a hS
                obtain ⟨hq, hm⟩ := hm
                refine op1 (call hS (by kernel_rfl) (by kernel_rfl) hb22 (by kernel_rfl) (fun _ _ => rfl) (k22 _ _ r104 a105 c106 hq h124) ?_)
                intro v156 a w157 χ158 hE hp hS
                clear hq
                replace hO := hO.mv hE rfl rfl
                replace h124 := h124.mv hE rfl
                replace hAmb := hAmb.mv hE rfl
                clear hE
                obtain ⟨r159, hr⟩ : ∃ r, token_Join r104 = r := ⟨_, rfl⟩
                replace hm := hm r159 hr
                rw [hr] at hp
                clear hr
                subst hp
                refine endP T hS (sp := []) (ks := [0]) (bs := []) (sy' := ⟨[(0, B (r159 == ([112, 32, 49, 50, 10, 10, 120, 10] : List UInt8)))], []⟩) (by kernel_rfl) ?_
                intro a hS
                refine wret ?_
                exact fin T hS hO (fun c => c) rfl (r := [.bool (r159 == ([112, 32, 49, 50, 10, 10, 120, 10] : List UInt8))]) (by kernel_rfl) (fun χ' hM hC => ⟨(r159 == ([112, 32, 49, 50, 10, 10, 120, 10] : List UInt8)), hm, rfl⟩)
              · replace hS := hS.lit (t := 98) (by kernel_rfl) hb
                replace hm := hm.2 hb
                refine endP T hS (sp := []) (ks := [0]) (bs := []) (sy' := ⟨[(0, B false)], []⟩) (by kernel_rfl) ?_
                intro a hS
                refine wret ?_
                exact fin T hS hO (fun c => c) rfl (r := [.bool false]) (by kernel_rfl) (fun χ' hM hC => ⟨false, hm, rfl⟩)
            · replace hS := hS.lit (t := 94) (by kernel_rfl) hb
              replace hm := hm.2 hb
              refine endP T hS (sp := []) (ks := [0]) (bs := []) (sy' := ⟨[(0, B false)], []⟩) (by kernel_rfl) ?_
              intro a hS
              refine wret ?_
              exact fin T hS hO (fun c => c) rfl (r := [.bool false]) (by kernel_rfl) (fun χ' hM hC => ⟨false, hm, rfl⟩)
          · replace hS := hS.lit (t := 91) (by kernel_rfl) hb
            replace hm := hm.2 hb
            refine endP T hS (sp := []) (ks := [0]) (bs := []) (sy' := ⟨[(0, B false)], []⟩) (by kernel_rfl) ?_
            intro a hS
            refine wret ?_
            exact fin T hS hO (fun c => c) rfl (r := [.bool false]) (by kernel_rfl) (fun χ' hM hC => ⟨false, hm, rfl⟩)
        · replace hS := hS.lit (t := 87) (by kernel_rfl) hb
          replace hm := hm.2 hb
          refine endP T hS (sp := []) (ks := [0]) (bs := []) (sy' := ⟨[(0, B false)], []⟩) (by kernel_rfl) ?_
          intro a hS
          refine wret ?_
          exact fin T hS hO (fun c => c) rfl (r := [.bool false]) (by kernel_rfl) (fun χ' hM hC => ⟨false, hm, rfl⟩)
      · replace hS := hS.lit (t := 58) (by kernel_rfl) hb
        replace hm := hm.2 hb
        refine endP T hS (sp := []) (ks := [0]) (bs := []) (sy' := ⟨[(0, B false)], []⟩) (by kernel_rfl) ?_
        intro a hS
        refine wret ?_
        exact fin T hS hO (fun c => c) rfl (r := [.bool false]) (by kernel_rfl) (fun χ' hM hC => ⟨false, hm, rfl⟩)
theorem C15 (k16 : S16) (k20 : S20) (k22 : S22) (k24 : S24) (k26 : S26) (v : ∀ (_ : Unit), VC15 (fun r => r = law05_awake)) : S15 := by
  intro w χ     hAmb
  refine (W15 k16 k20 k22 k24 k26 w χ     _ (v ()) hAmb).mono ?_
  rintro _ _ _ _ ⟨r, rfl, h⟩
  exact h
/-- replevin/replevinlaw05.TokenTells -/
theorem W3 (k15 : S15) (k16 : S16) (k17 : S17) (k18 : S18) (k19 : S19) (k20 : S20) (k21 : S21) (k22 : S22) (k23 : S23) (w0 : World) (χ0 : Nat → Nat) (s_ : List UInt8) (Q : Bool → Prop) (hm : VC3 s_ Q) (hAmb : Amb w0 χ0) :
    Ret Tryd.prog 3 #[.string (bs s_)] xnone w0 χ0 (fun w χ' v => ∃ r, Q r ∧ v = .bool r) := by
  unfold VC3 at hm
  refine enter Tryd.func3 rfl (vals := [.string (bs s_)]) (by kernel_rfl) ?_
  intro ρ a hS hO hM
  replace hAmb := hAmb.m0 hM
  clear hM
  refine regP T hS (sp := []) (ks := [0]) (bs := []) (sy' := ⟨[(0, V (.string (bs s_)))], []⟩) (by kernel_rfl) ?_
  intro a hS
  refine wseq ?_
  refine regP T hS (sp := []) (ks := [0, 7]) (bs := []) (sy' := ⟨[(0, V (.string (bs s_))), (7, B (decide (((s_.length : Nat) : Int) > 3000)))], []⟩) (by kernel_rfl) ?_
  intro a hS
  refine wcond hS (b := decide (((s_.length : Nat) : Int) > 3000)) (by kernel_rfl) (fun hb => ?_) (fun hb => ?_)
  · replace hm := hm.1 hb
    refine regO ?_
    refine op1 (call hS (by kernel_rfl) (by kernel_rfl) hb15 (by kernel_rfl) (fun _ _ => rfl) (k15 _ _ hAmb) ?_)
    intro v101 a w102 χ103 hE hp hS
    replace hO := hO.mv hE rfl rfl
    replace hAmb := hAmb.mv hE rfl
    clear hE
    obtain ⟨r104, hr⟩ : ∃ r, law05_awake = r := ⟨_, rfl⟩
    replace hm := hm r104 hr
    rw [hr] at hp
    clear hr
    subst hp
    refine endP T hS (sp := []) (ks := [2]) (bs := []) (sy' := ⟨[(2, B r104)], []⟩) (by kernel_rfl) ?_
    intro a hS
    refine wret ?_
    exact fin T hS hO (fun c => c) rfl (r := [.bool r104]) (by kernel_rfl) (fun χ' hM hC => ⟨r104, hm, rfl⟩)
  · replace hm := hm.2 hb
    refine wskip ?_
    refine regO ?_
    refine opsP T hS 1 (sp := []) (ks := [0, 9]) (bs := []) (sy' := ⟨[(0, V (.string (bs s_))), (9, V (.string (bs s_)))], []⟩) (by kernel_rfl) ?_
    intro a hS
    obtain ⟨hq, hm⟩ := hm
    refine op1 (call hS (by kernel_rfl) (by kernel_rfl) hb16 (by kernel_rfl) (fun _ _ => rfl) (k16 _ _ s_ hq) ?_)
    intro v105 a w106 χ107 hE hp hS
    clear hq
    replace hO := hO.mv hE rfl rfl
    replace hAmb := hAmb.mv hE rfl
    clear hE
    obtain ⟨a109, c110, hp, h111⟩ := hp
    obtain ⟨r108, hr⟩ : ∃ r, token_Lines s_ = r := ⟨_, rfl⟩
    replace hm := hm r108 hr
    rw [hr] at hp h111
    clear hr
    subst hp
    replace hm := hm (h111.sm (by kernel_rfl))
    refine endP T hS (sp := []) (ks := [0, 3]) (bs := []) (sy' := ⟨[(0, V (.string (bs s_))), (3, V (.slice a109 r108.length c110))], []⟩) (by kernel_rfl) ?_
    intro a hS
    refine regO ?_
    refine opsP T hS 1 (sp := []) (ks := [0, 3, 11]) (bs := []) (sy' := ⟨[(0, V (.string (bs s_))), (3, V (.slice a109 r108.length c110)), (11, V (.string (bs s_)))], []⟩) (by kernel_rfl) ?_
    intro a hS
    obtain ⟨hq, hm⟩ := hm
    refine op1 (call hS (by kernel_rfl) (by kernel_rfl) hb17 (by kernel_rfl) (fun _ _ => rfl) (k17 _ _ s_ hq) ?_)
    intro v112 a w113 χ114 hE hp hS
    clear hq
    replace hO := hO.mv hE rfl rfl
    replace hAmb := hAmb.mv hE rfl
    replace h111 := h111.mv hE rfl
    clear hE
    obtain ⟨a116, c117, hp, h118⟩ := hp
    obtain ⟨r115, hr⟩ : ∃ r, ref05_Lines s_ = r := ⟨_, rfl⟩
    replace hm := hm r115 hr
    rw [hr] at hp h118
    clear hr
    subst hp
    replace hm := hm (h118.sm (by kernel_rfl))
    refine endP T hS (sp := []) (ks := [0, 3, 4]) (bs := []) (sy' := ⟨[(0, V (.string (bs s_))), (3, V (.slice a109 r108.length c110)), (4, V (.slice a116 r115.length c117))], []⟩) (by kernel_rfl) ?_
    intro a hS
    refine regO ?_
    refine opsP T hS 1 (sp := []) (ks := [0, 3, 4, 13]) (bs := []) (sy' := ⟨[(0, V (.string (bs s_))), (3, V (.slice a109 r108.length c110)), (4, V (.slice a116 r115.length c117)), (13, V (.slice a109 r108.length c110))], []⟩) (by kernel_rfl) ?_
    intro a hS
    obtain ⟨hq, hm⟩ := hm
    refine op1 (call hS (by kernel_rfl) (by kernel_rfl) hb19 (by kernel_rfl) (fun _ _ => rfl) (k19 _ _ r108 a109 c110 hq h111) ?_)
    intro v119 a w120 χ121 hE hp hS
    clear hq
    replace hO := hO.mv hE rfl rfl
    replace hAmb := hAmb.mv hE rfl
    replace h111 := h111.mv hE rfl
    replace h118 := h118.mv hE rfl
    clear hE
    obtain ⟨a123, c124, hp, h125⟩ := hp
    obtain ⟨r122, hr⟩ : ∃ r, law05_Of r108 = r := ⟨_, rfl⟩
    replace hm := hm r122 hr
    rw [hr] at hp h125
    clear hr
    subst hp
    replace hm := hm (h125.sm (by kernel_rfl))
    refine opsP T hS 1 (sp := []) (ks := [0, 3, 4, 14, 15]) (bs := []) (sy' := ⟨[(0, V (.string (bs s_))), (3, V (.slice a109 r108.length c110)), (4, V (.slice a116 r115.length c117)), (14, V (.slice a123 r122.length c124)), (15, V (.slice a116 r115.length c117))], []⟩) (by kernel_rfl) ?_
    intro a hS
    refine op1 (call hS (by kernel_rfl) (by kernel_rfl) hb18 (by kernel_rfl) (fun _ _ => rfl) (k18 _ _ r122 r115 a123 c124 a116 c117 h125 h118) ?_)
    intro v126 a w127 χ128 hE hp hS
    replace hO := hO.mv hE rfl rfl
    replace hAmb := hAmb.mv hE rfl
    replace h111 := h111.mv hE rfl
    replace h118 := h118.mv hE rfl
    replace h125 := h125.mv hE rfl
    clear hE
    obtain ⟨r129, hr⟩ : ∃ r, ref05_Same r122 r115 = r := ⟨_, rfl⟩
    replace hm := hm r129 hr
    rw [hr] at hp
    clear hr
    subst hp
    refine opsP T hS 1 (sp := []) (ks := [0, 3, 4, 17]) (bs := []) (sy' := ⟨[(0, V (.string (bs s_))), (3, V (.slice a109 r108.length c110)), (4, V (.slice a116 r115.length c117)), (17, B r129)], []⟩) (by kernel_rfl) ?_
    intro a hS
    rcases Bool.eq_false_or_eq_true r129 with hb | hb
    · replace hS := hS.lit (t := 17) (by kernel_rfl) hb
      replace hm := hm.1 hb
      refine opsP T hS 1 (sp := []) (ks := [0, 3, 4, 17, 18]) (bs := []) (sy' := ⟨[(0, V (.string (bs s_))), (3, V (.slice a109 r108.length c110)), (4, V (.slice a116 r115.length c117)), (17, B true), (18, V (.string (bs s_)))], []⟩) (by kernel_rfl) ?_
      intro a hS
      obtain ⟨hq, hm⟩ := hm
      refine op1 (call hS (by kernel_rfl) (by kernel_rfl) hb20 (by kernel_rfl) (fun _ _ => rfl) (k20 _ _ s_ hq) ?_)
      intro v130 a w131 χ132 hE hp hS
      clear hq
      replace hO := hO.mv hE rfl rfl
      replace hAmb := hAmb.mv hE rfl
      replace h111 := h111.mv hE rfl
      replace h118 := h118.mv hE rfl
      clear hE
      obtain ⟨r133, hr⟩ : ∃ r, token_Word s_ = r := ⟨_, rfl⟩
      replace hm := hm r133 hr
      rw [hr] at hp
      clear hr
      subst hp
      refine opsP T hS 1 (sp := []) (ks := [3, 4, 17, 19, 20]) (bs := []) (sy' := ⟨[(3, V (.slice a109 r108.length c110)), (4, V (.slice a116 r115.length c117)), (17, B true), (19, B r133), (20, V (.string (bs s_)))], []⟩) (by kernel_rfl) ?_
      intro a hS
      obtain ⟨hq, hm⟩ := hm
      refine op1 (call hS (by kernel_rfl) (by kernel_rfl) hb21 (by kernel_rfl) (fun _ _ => rfl) (k21 _ _ s_ hq) ?_)
      intro v134 a w135 χ136 hE hp hS
      clear hq
      replace hO := hO.mv hE rfl rfl
      replace hAmb := hAmb.mv hE rfl
      replace h111 := h111.mv hE rfl
      replace h118 := h118.mv hE rfl
      clear hE
      obtain ⟨r137, hr⟩ : ∃ r, ref05_Word s_ = r := ⟨_, rfl⟩
      replace hm := hm r137 hr
      rw [hr] at hp
      clear hr
      subst hp
      refine opsP T hS 3 (sp := []) (ks := [3, 4, 24]) (bs := []) (sy' := ⟨[(3, V (.slice a109 r108.length c110)), (4, V (.slice a116 r115.length c117)), (24, B (r133 == r137))], []⟩) (by kernel_rfl) ?_
      intro a hS
      rcases Bool.eq_false_or_eq_true (r133 == r137) with hb | hb
      · replace hS := hS.lit (t := 24) (by kernel_rfl) hb
        replace hm := hm.1 hb
        refine opsP T hS 1 (sp := []) (ks := [4, 24, 25]) (bs := []) (sy' := ⟨[(4, V (.slice a116 r115.length c117)), (24, B true), (25, V (.slice a109 r108.length c110))], []⟩) (by kernel_rfl) ?_
        intro a hS
        obtain ⟨hq, hm⟩ := hm
        refine op1 (call hS (by kernel_rfl) (by kernel_rfl) hb22 (by kernel_rfl) (fun _ _ => rfl) (k22 _ _ r108 a109 c110 hq h111) ?_)
        intro v138 a w139 χ140 hE hp hS
        clear hq
        replace hO := hO.mv hE rfl rfl
        replace hAmb := hAmb.mv hE rfl
        replace h111 := h111.mv hE rfl
        replace h118 := h118.mv hE rfl
        clear hE
        obtain ⟨r141, hr⟩ : ∃ r, token_Join r108 = r := ⟨_, rfl⟩
        replace hm := hm r141 hr
        rw [hr] at hp
        clear hr
        subst hp
        refine opsP T hS 1 (sp := []) (ks := [24, 26, 27]) (bs := []) (sy' := ⟨[(24, B true), (26, V (.string (bs r141))), (27, V (.slice a116 r115.length c117))], []⟩) (by kernel_rfl) ?_
        intro a hS
        obtain ⟨hq, hm⟩ := hm
        refine op1 (call hS (by kernel_rfl) (by kernel_rfl) hb23 (by kernel_rfl) (fun _ _ => rfl) (k23 _ _ r115 a116 c117 hq h118) ?_)
        intro v142 a w143 χ144 hE hp hS
        clear hq
        replace hO := hO.mv hE rfl rfl
        replace hAmb := hAmb.mv hE rfl
        replace h118 := h118.mv hE rfl
        clear hE
        obtain ⟨r145, hr⟩ : ∃ r, ref05_Join r115 = r := ⟨_, rfl⟩
        replace hm := hm r145 hr
        rw [hr] at hp
        clear hr
        subst hp
        refine opsP T hS 3 (sp := []) (ks := [31]) (bs := []) (sy' := ⟨[(31, B (r141 == r145))], []⟩) (by kernel_rfl) ?_
        intro a hS
        rcases Bool.eq_false_or_eq_true (r141 == r145) with hb | hb
        · replace hS := hS.lit (t := 31) (by kernel_rfl) hb
          replace hm := hm.1 hb
          refine op1 (call hS (by kernel_rfl) (by kernel_rfl) hb15 (by kernel_rfl) (fun _ _ => rfl) (k15 _ _ hAmb) ?_)
          intro v146 a w147 χ148 hE hp hS
          replace hO := hO.mv hE rfl rfl
          replace hAmb := hAmb.mv hE rfl
          clear hE
          obtain ⟨r149, hr⟩ : ∃ r, law05_awake = r := ⟨_, rfl⟩
          replace hm := hm r149 hr
          rw [hr] at hp
          clear hr
          subst hp
          refine endP T hS (sp := []) (ks := [2]) (bs := []) (sy' := ⟨[(2, B r149)], []⟩) (by kernel_rfl) ?_
          intro a hS
          refine wret ?_
          exact fin T hS hO (fun c => c) rfl (r := [.bool r149]) (by kernel_rfl) (fun χ' hM hC => ⟨r149, hm, rfl⟩)
        · replace hS := hS.lit (t := 31) (by kernel_rfl) hb
          replace hm := hm.2 hb
          refine endP T hS (sp := []) (ks := [2]) (bs := []) (sy' := ⟨[(2, B false)], []⟩) (by kernel_rfl) ?_
          intro a hS
          refine wret ?_
          exact fin T hS hO (fun c => c) rfl (r := [.bool false]) (by kernel_rfl) (fun χ' hM hC => ⟨false, hm, rfl⟩)
      · replace hS := hS.lit (t := 24) (by kernel_rfl) hb
        replace hm := hm.2 hb
        refine endP T hS (sp := []) (ks := [2]) (bs := []) (sy' := ⟨[(2, B false)], []⟩) (by kernel_rfl) ?_
        intro a hS
        refine wret ?_
        exact fin T hS hO (fun c => c) rfl (r := [.bool false]) (by kernel_rfl) (fun χ' hM hC => ⟨false, hm, rfl⟩)
    · replace hS := hS.lit (t := 17) (by kernel_rfl) hb
      replace hm := hm.2 hb
      refine endP T hS (sp := []) (ks := [2]) (bs := []) (sy' := ⟨[(2, B false)], []⟩) (by kernel_rfl) ?_
      intro a hS
      refine wret ?_
      exact fin T hS hO (fun c => c) rfl (r := [.bool false]) (by kernel_rfl) (fun χ' hM hC => ⟨false, hm, rfl⟩)
end Go.Proofs.YtohbpcjnilefbaaDoor
