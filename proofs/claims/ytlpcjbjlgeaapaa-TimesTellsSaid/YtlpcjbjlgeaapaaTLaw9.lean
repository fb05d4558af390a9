/- The statement TimesTellsSaid of the seat's rows holds. Conditions: those of the row, no other. -/
import Derived.Test.YtlpcjbjlgeaapaaTChain
set_option linter.all false
namespace Go.Proofs.Ytlpcjbjlgeaapaa
open Go Go.Sv Go.Op Go.ChangeShapes Go.WideShapes Go.ChangeAt Go.RowKit
set_option maxRecDepth 100000 in
theorem lifted9 (os : Os) (started : os.Started) (H : Type) (enc : TypeId × Value → H) :
    ReturnsInHanded {} Try.checked os 9 .any (Rows.timesTellsSpec.pre6 enc Try.prog Try.f9 Rows.timesTellsRow.domain false) (Rows.timesTellsSpec.post enc Try.prog Try.f9 false true false false) := by
  refine returnsInHanded_of_change_sized (C := Try.checked) own started (by kernel_rfl) Try.func9
    (ChangeSpec.witness6 (enc := enc) (C := Try.checked) false ⟨#[], #[.agg #[.int .i64 0, .int .i64 0], .slice none 0 0, .slice none 0 0], []⟩ 8 (by kernel_rfl) (by kernel_rfl) (by kernel_rfl) (by kernel_rfl)) ?_
  intro W base args ds gs before hval0 hW hcnd hsz _
  have hval : ∀ (j : Nat) t v, Try.f9.params[j]? = some t → args[j]? = some v → Value.okWide Try.prog W .any base t v := hval0
  have hW' := hW
  obtain ⟨p, q, hA0, hV, rfl, hfz, hnd⟩ := hW
  have hpar : Try.f9.params = #[23, 61, 42] := by kernel_rfl
  have hA : DataW.TrodAll enc Try.prog W 0 (fun _ => true) true Try.f9.params.toList args.toList ds p := hA0
  rw [hpar] at hA hval hsz
  clear hA0 hval0
  obtain ⟨v0, vs0, d0, ds0, p0, q0, hargs, rfl, rfl, h0, r0⟩ := trodAll_cons hA
  obtain ⟨v1, vs1, d1, ds1, p1, q1, rfl, rfl, rfl, h1, r1⟩ := trodAll_cons r0
  obtain ⟨v2, vs2, d2, ds2, p2, q2, rfl, rfl, rfl, h2, r2⟩ := trodAll_cons r1
  obtain ⟨rfl, rfl, rfl⟩ := trodAll_nil r2
  obtain rfl : args = #[v0, v1, v2] := by cases args; simp_all
  obtain ⟨rfl, rfl⟩ := trodVars_none hV
  obtain ⟨zz0, hsz⟩ := sz_cons (t := 23) hsz
  obtain ⟨zz1, hsz⟩ := sz_cons (t := 61) hsz
  obtain ⟨zz2, hsz⟩ := sz_cons (t := 42) hsz
  have k0 := h0
  have lt0 : ∀ x ∈ p0, x.block < W.heap.size := by obtain ⟨m, hm⟩ := k0; exact DataW.trod_lt m _ _ _ hm
  obtain ⟨fuel0, hf0⟩ := h0
  obtain ⟨cs0, rfl, _⟩ := okWide_struct Try.underlying23 (hval 0 23 v0 rfl rfl)
  obtain ⟨P, hR0, hv0⟩ := oNumbering_Size _ _ _ _ _ _ _ _ _ hf0 zz0
  have hR0 : cs0.toList = [.int .i64 P.Ops, .int .i64 P.States] := hR0
  obtain rfl : cs0 = #[.int .i64 P.Ops, .int .i64 P.States] := by cases cs0; simpa using hR0
  have k1 := h1
  have lt1 : ∀ x ∈ p1, x.block < W.heap.size := by obtain ⟨m, hm⟩ := k1; exact DataW.trod_lt m _ _ _ hm
  obtain ⟨fuel1, hf1⟩ := h1
  have hone1 := one_slice Try.underlying61 (hval 1 61 v1 rfl rfl)
  obtain ⟨O, hR1, hv1⟩ := (o_slice Try.underlying61 (by kernel_rfl) (by kernel_rfl) (o_p2 Try.underlying68 Try.underlying3 (by kernel_rfl) (by kernel_rfl))) _ _ _ _ _ _ _ _ _ hf1 zz1
  rw [hone1] at hR1
  obtain ⟨a1, c1, hR1, Hh1⟩ := hR1
  obtain rfl : v1 = .slice a1 O.length c1 := head_eq hR1
  have k2 := h2
  have lt2 : ∀ x ∈ p2, x.block < W.heap.size := by obtain ⟨m, hm⟩ := k2; exact DataW.trod_lt m _ _ _ hm
  obtain ⟨fuel2, hf2⟩ := h2
  have hone2 := one_slice Try.underlying42 (hval 2 42 v2 rfl rfl)
  obtain ⟨S, hR2, hv2⟩ := (o_slice Try.underlying42 (by kernel_rfl) (by kernel_rfl) (o_int (bytes := 8) Try.underlying3)) _ _ _ _ _ _ _ _ _ hf2 zz2
  rw [hone2] at hR2
  obtain ⟨a2, c2, hR2, Hh2⟩ := hR2
  obtain rfl : v2 = .slice a2 S.length c2 := head_eq hR2
  refine (below ((W9 s31 s34 s37 s38 s39 s40 s41 s42 s43 W Go.Op.z0 P O S a1 c1 a2 c2 (fun r => r = true) (v9 P O S) Hh1 Hh2).mono (fun _ _ _ _ ⟨r, hr, hp⟩ => (hp.trans (by rw [hr])))) (post := fun _ _ v => v = .bool true)).mono fun e W' ⟨⟨v, χ, he, hp⟩, bel⟩ => ?_
  subst hp
  subst he
  exact ⟨_, rfl, _, _, _, [], _, [], hW', trodAll_mk1 (shut_bool Try.underlying4 _), (trodAll_cons_mk (Below.trod laidOut (by kernel_rfl) (of_decide_eq_true (by kernel_rfl)) k0 bel lt0) (trodAll_cons_mk (Below.trod laidOut (by kernel_rfl) (of_decide_eq_true (by kernel_rfl)) k1 bel lt1) (trodAll_cons_mk (Below.trod laidOut (by kernel_rfl) (of_decide_eq_true (by kernel_rfl)) k2 bel lt2) trodAll_mk0))), rfl, bel.frame _, fun h => by cases h⟩

theorem holds9 : Rows.TimesTellsSaid :=
  OpenClaim.holds_of_wide 9 Try.f9 rfl rfl rfl rfl rfl rfl rfl ⟨rfl, rfl, rfl, rfl, rfl⟩ rfl rfl rfl rfl rfl (by kernel_rfl) Try.func9 (by kernel_rfl)
    (of_decide_eq_true (by kernel_rfl)) (by unfold Func.isWrapper; first | (rw [if_pos (by decide +kernel)]; kernel_rfl) | (rw [if_neg (by decide +kernel)]; exact ⟨rfl, rfl⟩))
    (fun os started H enc _ => lifted9 os started H enc)
end Go.Proofs.Ytlpcjbjlgeaapaa
