/- The statement TimesSortsSaid of the seat's rows holds. Conditions: those of the row, no other. -/
import Derived.Test.YtlpcjbjlgeaapaaUChain
set_option linter.all false
namespace Go.Proofs.Ytlpcjbjlgeaapaa
open Go Go.Sv Go.Op Go.ChangeShapes Go.WideShapes Go.ChangeAt Go.RowKit
set_option maxRecDepth 100000 in
theorem lifted16 (os : Os) (started : os.Started) (H : Type) (enc : TypeId × Value → H) :
    ReturnsInHanded {} Try.checked os 16 .any (Rows.timesSortsSpec.pre6 enc Try.prog Try.f16 Rows.timesSortsRow.domain false) (Rows.timesSortsSpec.post enc Try.prog Try.f16 false true false false) := by
  refine returnsInHanded_of_change_sized (C := Try.checked) own started (by kernel_rfl) Try.func16
    (ChangeSpec.witness6 (enc := enc) (C := Try.checked) false ⟨#[], #[.slice none 0 0], []⟩ 8 (by kernel_rfl) (by kernel_rfl) (by kernel_rfl) (by kernel_rfl)) ?_
  intro W base args ds gs before hval0 hW hcnd hsz _
  have hval : ∀ (j : Nat) t v, Try.f16.params[j]? = some t → args[j]? = some v → Value.okWide Try.prog W .any base t v := hval0
  have hW' := hW
  obtain ⟨p, q, hA0, hV, rfl, hfz, hnd⟩ := hW
  have hpar : Try.f16.params = #[76] := by kernel_rfl
  have hA : DataW.TrodAll enc Try.prog W 0 (fun _ => true) true Try.f16.params.toList args.toList ds p := hA0
  rw [hpar] at hA hval hsz
  clear hA0 hval0
  obtain ⟨v0, vs0, d0, ds0, p0, q0, hargs, rfl, rfl, h0, r0⟩ := trodAll_cons hA
  obtain ⟨rfl, rfl, rfl⟩ := trodAll_nil r0
  obtain rfl : args = #[v0] := by cases args; simp_all
  obtain ⟨rfl, rfl⟩ := trodVars_none hV
  obtain ⟨zz0, hsz⟩ := sz_cons (t := 76) hsz
  have k0 := h0
  have lt0 : ∀ x ∈ p0, x.block < W.heap.size := by obtain ⟨m, hm⟩ := k0; exact DataW.trod_lt m _ _ _ hm
  obtain ⟨fuel0, hf0⟩ := h0
  have hone0 := one_slice Try.underlying76 (hval 0 76 v0 rfl rfl)
  obtain ⟨l_, hR0, hv0⟩ := (o_slice Try.underlying76 (by kernel_rfl) (by kernel_rfl) oApi_Oper) _ _ _ _ _ _ _ _ _ hf0 zz0
  rw [hone0] at hR0
  obtain ⟨a1, c1, hR0, Hh1⟩ := hR0
  obtain rfl : v0 = .slice a1 l_.length c1 := head_eq hR0
  refine (below ((W16 s37 s40 s54 s55 W Go.Op.z0 l_ a1 c1 (fun r => r = true) (v16 l_) Hh1).mono (fun _ _ _ _ ⟨r, hr, hp⟩ => (hp.trans (by rw [hr])))) (post := fun _ _ v => v = .bool true)).mono fun e W' ⟨⟨v, χ, he, hp⟩, bel⟩ => ?_
  subst hp
  subst he
  exact ⟨_, rfl, _, _, _, [], _, [], hW', trodAll_mk1 (shut_bool Try.underlying4 _), (trodAll_cons_mk (Below.trod laidOut (by kernel_rfl) (of_decide_eq_true (by kernel_rfl)) k0 bel lt0) trodAll_mk0), rfl, bel.frame _, fun h => by cases h⟩

theorem holds16 : Rows.TimesSortsSaid :=
  OpenClaim.holds_of_wide 16 Try.f16 rfl rfl rfl rfl rfl rfl rfl ⟨rfl, rfl, rfl, rfl, rfl⟩ rfl rfl rfl rfl rfl (by kernel_rfl) Try.func16 (by kernel_rfl)
    (of_decide_eq_true (by kernel_rfl)) (by unfold Func.isWrapper; first | (rw [if_pos (by decide +kernel)]; kernel_rfl) | (rw [if_neg (by decide +kernel)]; exact ⟨rfl, rfl⟩))
    (fun os started H enc _ => lifted16 os started H enc)
end Go.Proofs.Ytlpcjbjlgeaapaa
