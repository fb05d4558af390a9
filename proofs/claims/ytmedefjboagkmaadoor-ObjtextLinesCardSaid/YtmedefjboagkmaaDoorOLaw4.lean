/- The statement ObjtextLinesCardSaid of the seat's rows holds. Conditions: those of the row, no other. -/
import Derived.Test.YtmedefjboagkmaaDoorOChain
import Derived.LaidMore
import Derived.Stop.Joined
import Derived.Stop.LaidErr
import Derived.SevenTiedAt
import Derived.Test.YtmedefjboagkmaaDoorCards
import Derived.Test.YtmedefjboagkmaaDoorTie
set_option linter.all false
namespace Go.Proofs.YtmedefjboagkmaaDoor
open Go Go.Sv Go.Op Go.ChangeShapes Go.WideShapes Go.ChangeAt Go.RowKit
def laidOf4 : List (String × DataW Unit) := [("math/bits.deBruijn32tab", Rows.laid_math_bits_deBruijn32tab), ("math/bits.deBruijn64tab", Rows.laid_math_bits_deBruijn64tab), ("internal/strconv.uint64pow10", Rows.laid_internal_strconv_uint64pow10)]
theorem doorMet4 (os : Os) (args : Array Value) : laidMetH Tryd.prog laidOf4 ((World.doorLaid Tryd.prog 24 os).forCall (fun _ _ => 0) ⟨#[], args, []⟩).memory :=
  laidMetH_of_parts3 (fuel := 8) (laidMet_of_run' 8 (by kernel_rfl) (by kernel_rfl)) (by kernel_rfl) (by kernel_rfl)
theorem ambOf4 {W : World} (h : laidMetH Tryd.prog laidOf4 W) : Amb W Go.Op.z0 := by
  rw [MakeChecks.laidMetH_plain _ _ _ (by kernel_rfl)] at h
  exact ⟨Lib.tabIs_of_head (t := 135) (e := 107) (n := 20) (g := 1) (by kernel_rfl) (by kernel_rfl) Tryd.underlying135 Tryd.underlying107 (by kernel_rfl) (by kernel_rfl) (show laidMet _ (("internal/strconv.uint64pow10", Lib.tabData .u64 Lib.pow10Tab) :: []) W from (h.tail).tail), fun _ _ => rfl⟩
set_option maxRecDepth 100000 in
theorem lifted4 (os : Os) (started : os.Started) (H : Type) (enc : TypeId × Value → H) :
    ReturnsInHanded {} Tryd.checked os 4 .any (fun w args => (Rows.objtextLinesSpec.pre enc Tryd.prog Tryd.f4 [] false w args ∧ laidMetH Tryd.prog laidOf4 w) ∧ sizedMet enc Tryd.prog Tryd.f4 (OpenSpec.ofChange Rows.objtextLinesSpec) false w args) (Rows.objtextLinesSpec.post enc Tryd.prog Tryd.f4 false true false false) := by
  refine returnsInHanded_of_change_and (C := Tryd.checked) (X := fun w _ => laidMetH Tryd.prog laidOf4 w) (fun _ _ _ hh h => h.of_heap hh) own started (by kernel_rfl) Tryd.func4
    (ChangeSpec.witness_shaped (enc := enc) (C := Tryd.checked) (os := os) (X := fun w _ => laidMetH Tryd.prog laidOf4 w) false (World.doorLaid Tryd.prog 24 os) #[.string ⟨#[]⟩, .agg #[.slice none 0 0, .slice none 0 0], .agg #[.int .i64 0, .int .i64 0, .int .i64 0, .slice none 0 0]] 8 rfl (World.shaped_of_RefB (by kernel_rfl) (by kernel_rfl)) (by kernel_rfl) (by kernel_rfl) (by kernel_rfl) (doorMet4 os _)) ?_
  intro W base args ds gs before hval0 hW hcnd hsz hL _
  have hAmb := ambOf4 hL
  have hval : ∀ (j : Nat) t v, Tryd.f4.params[j]? = some t → args[j]? = some v → Value.okWide Tryd.prog W .any base t v := hval0
  have hW' := hW
  obtain ⟨p, q, hA0, hV, rfl, hfz, hnd⟩ := hW
  have hpar : Tryd.f4.params = #[9, 45, 25] := by kernel_rfl
  have hA : DataW.TrodAll enc Tryd.prog W 0 (fun _ => true) true Tryd.f4.params.toList args.toList ds p := hA0
  rw [hpar] at hA hval hsz
  clear hA0 hval0
  obtain ⟨v0, vs0, d0, ds0, p0, q0, hargs, rfl, rfl, h0, r0⟩ := trodAll_cons hA
  obtain ⟨v1, vs1, d1, ds1, p1, q1, rfl, rfl, rfl, h1, r1⟩ := trodAll_cons r0
  obtain ⟨v2, vs2, d2, ds2, p2, q2, rfl, rfl, rfl, h2, r2⟩ := trodAll_cons r1
  obtain ⟨rfl, rfl, rfl⟩ := trodAll_nil r2
  obtain rfl : args = #[v0, v1, v2] := by cases args; simp_all
  obtain ⟨rfl, rfl⟩ := trodVars_none hV
  obtain ⟨zz0, hsz⟩ := sz_cons (t := 9) hsz
  obtain ⟨zz1, hsz⟩ := sz_cons (t := 45) hsz
  obtain ⟨zz2, hsz⟩ := sz_cons (t := 25) hsz
  have k0 := h0
  have lt0 : ∀ x ∈ p0, x.block < W.heap.size := by obtain ⟨m, hm⟩ := k0; exact DataW.trod_lt m _ _ _ hm
  obtain ⟨fuel0, hf0⟩ := h0
  have hone0 := one_string Tryd.underlying9 (hval 0 9 v0 rfl rfl)
  obtain ⟨s_, hR0, hv0⟩ := (o_str Tryd.underlying9) _ _ _ _ _ _ _ _ _ hf0 zz0
  rw [hone0] at hR0
  obtain rfl : v0 = .string (bs s_) := head_eq hR0
  have k1 := h1
  have lt1 : ∀ x ∈ p1, x.block < W.heap.size := by obtain ⟨m, hm⟩ := k1; exact DataW.trod_lt m _ _ _ hm
  obtain ⟨fuel1, hf1⟩ := h1
  obtain ⟨cs1, rfl, _⟩ := okWide_array Tryd.underlying45 (hval 1 45 v1 rfl rfl)
  obtain ⟨b_, hR1, hv1⟩ := (o_pS Tryd.underlying45 (o_slice Tryd.underlying44 (by kernel_rfl) (by kernel_rfl) (o_int (bytes := 8) Tryd.underlying3)) (by kernel_rfl) (by kernel_rfl)) _ _ _ _ _ _ _ _ _ hf1 zz1
  obtain ⟨a1, c1, a2, c2, hR1, Hh1, Hh2⟩ := hR1
  have hR1 : cs1.toList = [.slice a1 b_.1.length c1, .slice a2 b_.2.length c2] := hR1
  obtain rfl : cs1 = #[.slice a1 b_.1.length c1, .slice a2 b_.2.length c2] := by cases cs1; simpa using hR1
  have k2 := h2
  have lt2 : ∀ x ∈ p2, x.block < W.heap.size := by obtain ⟨m, hm⟩ := k2; exact DataW.trod_lt m _ _ _ hm
  obtain ⟨fuel2, hf2⟩ := h2
  obtain ⟨cs2, rfl, _⟩ := okWide_struct Tryd.underlying25 (hval 2 25 v2 rfl rfl)
  obtain ⟨o_, hR2, hv2⟩ := oApi_Object _ _ _ _ _ _ _ _ _ hf2 zz2
  obtain ⟨a3, c3, hR2, Hh3⟩ := hR2
  have hR2 : cs2.toList = [.int .i64 o_.States, .int .i64 o_.Kinds, .int .i64 o_.Init, .slice a3 o_.Rows.length c3] := hR2
  obtain rfl : cs2 = #[.int .i64 o_.States, .int .i64 o_.Kinds, .int .i64 o_.Init, .slice a3 o_.Rows.length c3] := by cases cs2; simpa using hR2
  refine (below ((W4 s12 s14 s18 s19 s20 s21 s22 s23 s7 W Go.Op.z0 s_ b_ o_ a1 c1 a2 c2 a3 c3 (fun r => r = true) (v4 s_ b_ o_ hv0 hv1 hv2) Hh1 Hh2 Hh3 hAmb).mono (fun _ _ _ _ ⟨r, hr, hp⟩ => (hp.trans (by rw [hr])))) (post := fun _ _ v => v = .bool true)).mono fun e W' ⟨⟨v, χ, he, hp⟩, bel⟩ => ?_
  subst hp
  subst he
  exact ⟨_, rfl, _, _, _, [], _, [], hW', trodAll_mk1 (shut_bool Tryd.underlying4 _), (trodAll_cons_mk (Below.trod laidOut (by kernel_rfl) (of_decide_eq_true (by kernel_rfl)) k0 bel lt0) (trodAll_cons_mk (Below.trod laidOut (by kernel_rfl) (of_decide_eq_true (by kernel_rfl)) k1 bel lt1) (trodAll_cons_mk (Below.trod laidOut (by kernel_rfl) (of_decide_eq_true (by kernel_rfl)) k2 bel lt2) trodAll_mk0))), rfl, bel.frame _, fun h => by cases h⟩

theorem holds4 : Rows.ObjtextLinesSaid :=
  OpenClaim.holds_of_wide 4 Tryd.f4 rfl rfl rfl rfl rfl rfl rfl ⟨rfl, rfl, rfl, rfl, rfl⟩ rfl rfl rfl rfl rfl (by kernel_rfl) Tryd.func4 (by kernel_rfl)
    (of_decide_eq_true (by kernel_rfl)) (by unfold Func.isWrapper; first | (rw [if_pos (by decide +kernel)]; kernel_rfl) | (rw [if_neg (by decide +kernel)]; exact ⟨rfl, rfl⟩))
    (fun os started H enc _ => lifted4 os started H enc)
theorem card4 : Rows.ObjtextLinesCardSaid :=
  Claim7.holds_tied_plain_at .later [] [.data, .data, .data] true (true, "cf5ea8261d6803114838ef15332e8e394d286e5f01ca845081398144a4d5fffc") false
    holds4 (fun _ h => by cases h) (by kernel_rfl) (fun _ h => by cases h) objtextLines_row_tie rfl ⟨rfl, rfl⟩ (by kernel_rfl) rfl
    (fun f fn hf hfn => by
      obtain rfl : f = 4 := Option.some.inj ((show Tryd.prog.funcNamed "replevin/replevinlaw24.ObjtextLines" = some 4 by kernel_rfl).symm.trans hf) |>.symm
      obtain rfl : fn = Tryd.f4 := (Option.some.inj (Tryd.func4.symm.trans hfn)).symm
      exact ⟨by kernel_rfl, fun j t ht => by
        have hpar : Tryd.f4.params = #[9, 45, 25] := by kernel_rfl
        rw [hpar] at ht
        have hm : t ∈ [9, 45, 25] := by simpa using Array.mem_of_getElem? ht
        have hall : ([9, 45, 25].all fun u => !Tryd.prog.wantsStandIn u) = true := by kernel_rfl
        exact (show Tryd.prog.wantsStandIn t = false by simpa using List.all_eq_true.1 hall t hm)⟩)
    (by kernel_rfl)
end Go.Proofs.YtmedefjboagkmaaDoor
