/- The statement VerdictPrintsCardSaid of the seat's rows holds. Conditions: those of the row, no other. -/
import Derived.Test.YtkgcdoeldilhaaaGreatDoorNChain4
import Derived.LaidMore
import Derived.Stop.Joined
import Derived.Stop.LaidErr
import Derived.SevenTiedAt
import Derived.Test.YtkgcdoeldilhaaaGreatDoorCards
import Derived.Test.YtkgcdoeldilhaaaGreatDoorTie
set_option linter.all false
namespace Go.Proofs.YtkgcdoeldilhaaaGreatDoor
open Go Go.Sv Go.Op Go.ChangeShapes Go.WideShapes Go.ChangeAt Go.RowKit
def laidOf4 : List (String × DataW Unit) := [("math/bits.deBruijn32tab", Rows.laid_math_bits_deBruijn32tab), ("math/bits.deBruijn64tab", Rows.laid_math_bits_deBruijn64tab), ("internal/strconv.uint64pow10", Rows.laid_internal_strconv_uint64pow10)]
theorem doorMet4 (os : Os) (args : Array Value) : laidMetH Tryz.prog laidOf4 ((World.doorLaid Tryz.prog 24 os).forCall (fun _ _ => 0) ⟨#[], args, []⟩).memory :=
  laidMetH_of_parts3 (fuel := 8) (laidMet_of_run' 8 (by kernel_rfl) (by kernel_rfl)) (by kernel_rfl) (by kernel_rfl)
theorem ambOf4 {W : World} (h : laidMetH Tryz.prog laidOf4 W) : Amb W Go.Op.z0 := by
  rw [MakeChecks.laidMetH_plain _ _ _ (by kernel_rfl)] at h
  exact ⟨Lib.tabIs_of_head (t := 161) (e := 146) (n := 20) (g := 1) (by kernel_rfl) (by kernel_rfl) Tryz.underlying161 Tryz.underlying146 (by kernel_rfl) (by kernel_rfl) (show laidMet _ (("internal/strconv.uint64pow10", Lib.tabData .u64 Lib.pow10Tab) :: []) W from (h.tail).tail), fun _ _ => rfl⟩
set_option maxRecDepth 100000 in
theorem lifted4 (os : Os) (started : os.Started) (H : Type) (enc : TypeId × Value → H) :
    ReturnsInHanded {} Tryz.checked os 4 .any (fun w args => (Rows.verdictPrintsSpec.pre enc Tryz.prog Tryz.f4 [] false w args ∧ laidMetH Tryz.prog laidOf4 w) ∧ sizedMet enc Tryz.prog Tryz.f4 (OpenSpec.ofChange Rows.verdictPrintsSpec) false w args) (Rows.verdictPrintsSpec.post enc Tryz.prog Tryz.f4 false true false false) := by
  refine returnsInHanded_of_change_and (C := Tryz.checked) (X := fun w _ => laidMetH Tryz.prog laidOf4 w) (fun _ _ _ hh h => h.of_heap hh) own started (by kernel_rfl) Tryz.func4
    (ChangeSpec.witness_shaped (enc := enc) (C := Tryz.checked) (os := os) (X := fun w _ => laidMetH Tryz.prog laidOf4 w) false (World.doorLaid Tryz.prog 24 os) #[.agg #[.int .i64 0, .int .i64 0, .int .i64 0, .slice none 0 0, .slice none 0 0], .agg #[.int .i64 0, .int .i64 0, .int .i64 0, .slice none 0 0, .slice none 0 0], .int .i64 0] 8 rfl (World.shaped_of_RefB (by kernel_rfl) (by kernel_rfl)) (by kernel_rfl) (by kernel_rfl) (by kernel_rfl) (doorMet4 os _)) ?_
  intro W base args ds gs before hval0 hW hcnd hsz hL _
  have hAmb := ambOf4 hL
  have hval : ∀ (j : Nat) t v, Tryz.f4.params[j]? = some t → args[j]? = some v → Value.okWide Tryz.prog W .any base t v := hval0
  have hW' := hW
  obtain ⟨p, q, hA0, hV, rfl, hfz, hnd⟩ := hW
  have hpar : Tryz.f4.params = #[27, 27, 3] := by kernel_rfl
  have hA : DataW.TrodAll enc Tryz.prog W 0 (fun _ => true) true Tryz.f4.params.toList args.toList ds p := hA0
  rw [hpar] at hA hval hsz
  clear hA0 hval0
  obtain ⟨v0, vs0, d0, ds0, p0, q0, hargs, rfl, rfl, h0, r0⟩ := trodAll_cons hA
  obtain ⟨v1, vs1, d1, ds1, p1, q1, rfl, rfl, rfl, h1, r1⟩ := trodAll_cons r0
  obtain ⟨v2, vs2, d2, ds2, p2, q2, rfl, rfl, rfl, h2, r2⟩ := trodAll_cons r1
  obtain ⟨rfl, rfl, rfl⟩ := trodAll_nil r2
  obtain rfl : args = #[v0, v1, v2] := by cases args; simp_all
  obtain ⟨rfl, rfl⟩ := trodVars_none hV
  obtain ⟨zz0, hsz⟩ := sz_cons (t := 27) hsz
  obtain ⟨zz1, hsz⟩ := sz_cons (t := 27) hsz
  obtain ⟨zz2, hsz⟩ := sz_cons (t := 3) hsz
  have k0 := h0
  have lt0 : ∀ x ∈ p0, x.block < W.heap.size := by obtain ⟨m, hm⟩ := k0; exact DataW.trod_lt m _ _ _ hm
  obtain ⟨fuel0, hf0⟩ := h0
  obtain ⟨cs0, rfl, _⟩ := okWide_struct Tryz.underlying27 (hval 0 27 v0 rfl rfl)
  obtain ⟨v_, hR0, hv0⟩ := oApi_Verdict _ _ _ _ _ _ _ _ _ hf0 zz0
  obtain ⟨a1, c1, a2, c2, hR0, Hh1, Hh2⟩ := hR0
  have hR0 : cs0.toList = [.int .i64 v_.Kind, .int .i64 v_.At, .int .i64 v_.Err, .slice a1 v_.Picks.length c1, .slice a2 v_.Proof.length c2] := hR0
  obtain rfl : cs0 = #[.int .i64 v_.Kind, .int .i64 v_.At, .int .i64 v_.Err, .slice a1 v_.Picks.length c1, .slice a2 v_.Proof.length c2] := by cases cs0; simpa using hR0
  have k1 := h1
  have lt1 : ∀ x ∈ p1, x.block < W.heap.size := by obtain ⟨m, hm⟩ := k1; exact DataW.trod_lt m _ _ _ hm
  obtain ⟨fuel1, hf1⟩ := h1
  obtain ⟨cs1, rfl, _⟩ := okWide_struct Tryz.underlying27 (hval 1 27 v1 rfl rfl)
  obtain ⟨w_, hR1, hv1⟩ := oApi_Verdict _ _ _ _ _ _ _ _ _ hf1 zz1
  obtain ⟨a3, c3, a4, c4, hR1, Hh3, Hh4⟩ := hR1
  have hR1 : cs1.toList = [.int .i64 w_.Kind, .int .i64 w_.At, .int .i64 w_.Err, .slice a3 w_.Picks.length c3, .slice a4 w_.Proof.length c4] := hR1
  obtain rfl : cs1 = #[.int .i64 w_.Kind, .int .i64 w_.At, .int .i64 w_.Err, .slice a3 w_.Picks.length c3, .slice a4 w_.Proof.length c4] := by cases cs1; simpa using hR1
  have k2 := h2
  have lt2 : ∀ x ∈ p2, x.block < W.heap.size := by obtain ⟨m, hm⟩ := k2; exact DataW.trod_lt m _ _ _ hm
  obtain ⟨fuel2, hf2⟩ := h2
  have hone2 := one_int Tryz.underlying3 (hval 2 3 v2 rfl rfl)
  obtain ⟨kind, hR2, hv2⟩ := (o_int (bytes := 8) Tryz.underlying3) _ _ _ _ _ _ _ _ _ hf2 zz2
  rw [hone2] at hR2
  obtain rfl : v2 = .int .i64 kind := head_eq hR2
  refine (below ((W4 s10 s11 s12 s13 s14 s15 s16 s5 s8 s9 W Go.Op.z0 v_ w_ kind a1 c1 a2 c2 a3 c3 a4 c4 (fun r => r = true) (v4 v_ w_ kind hv0 hv1 hv2) Hh1 Hh2 Hh3 Hh4 hAmb).mono (fun _ _ _ _ ⟨r, hr, hp⟩ => (hp.trans (by rw [hr])))) (post := fun _ _ v => v = .bool true)).mono fun e W' ⟨⟨v, χ, he, hp⟩, bel⟩ => ?_
  subst hp
  subst he
  exact ⟨_, rfl, _, _, _, [], _, [], hW', trodAll_mk1 (shut_bool Tryz.underlying4 _), (trodAll_cons_mk (Below.trod laidOut (by kernel_rfl) (of_decide_eq_true (by kernel_rfl)) k0 bel lt0) (trodAll_cons_mk (Below.trod laidOut (by kernel_rfl) (of_decide_eq_true (by kernel_rfl)) k1 bel lt1) (trodAll_cons_mk (Below.trod laidOut (by kernel_rfl) (of_decide_eq_true (by kernel_rfl)) k2 bel lt2) trodAll_mk0))), rfl, bel.frame _, fun h => by cases h⟩
theorem holds4 : Rows.VerdictPrintsSaid :=
  OpenClaim.holds_of_wide 4 Tryz.f4 rfl rfl rfl rfl rfl rfl rfl ⟨rfl, rfl, rfl, rfl, rfl⟩ rfl rfl rfl rfl rfl (by kernel_rfl) Tryz.func4 (by kernel_rfl)
    (of_decide_eq_true (by kernel_rfl)) (by unfold Func.isWrapper; first | (rw [if_pos (by decide +kernel)]; kernel_rfl) | (rw [if_neg (by decide +kernel)]; exact ⟨rfl, rfl⟩))
    (fun os started H enc _ => lifted4 os started H enc)
theorem card4 : Rows.VerdictPrintsCardSaid :=
  Claim7.holds_tied_plain_at .later [] [.data, .data, .data] true (true, "248276dda677ca825e23d86bb3dcc0e35b277fa75cf1e24ff3514a76f219ca3b") false
    holds4 (fun _ h => by cases h) (by kernel_rfl) (fun _ h => by cases h) verdictPrints_row_tie rfl ⟨rfl, rfl⟩ (by kernel_rfl) rfl
    (fun f fn hf hfn => by
      obtain rfl : f = 4 := Option.some.inj ((show Tryz.prog.funcNamed "replevin/replevinlaw39.VerdictPrints" = some 4 by kernel_rfl).symm.trans hf) |>.symm
      obtain rfl : fn = Tryz.f4 := (Option.some.inj (Tryz.func4.symm.trans hfn)).symm
      exact ⟨by kernel_rfl, fun j t ht => by
        have hpar : Tryz.f4.params = #[27, 27, 3] := by kernel_rfl
        rw [hpar] at ht
        have hm : t ∈ [27, 27, 3] := by simpa using Array.mem_of_getElem? ht
        have hall : ([27, 27, 3].all fun u => !Tryz.prog.wantsStandIn u) = true := by kernel_rfl
        exact (show Tryz.prog.wantsStandIn t = false by simpa using List.all_eq_true.1 hall t hm)⟩)
    (by kernel_rfl)
end Go.Proofs.YtkgcdoeldilhaaaGreatDoor
