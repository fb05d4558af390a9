/- The laws HisttextReads and HisttextPrints: plain. -/
import Derived.Test.YtcjldfbgccmpkaaDoorHV24
set_option linter.all false
namespace Go.Proofs.YtcjldfbgccmpkaaDoor
open Go Go.Sv Go.Pu
theorem v7 : VC7 (fun r => r = law26_awake) := by
  have e1 : histtext_Parse [111, 98, 106, 101, 99, 116, 32, 49, 32, 49, 32, 48, 32, 49, 10, 114, 111, 119, 32, 48, 32, 48, 32, 48, 32, 55, 10, 99, 97, 108, 108, 32, 49, 32, 48, 10, 114, 101, 116, 32, 49, 32, 55, 10] = (⟨⟨1, 1, 0, [⟨0, 0, 0, 7⟩]⟩, [⟨1, 1, 0⟩, ⟨2, 1, 7⟩]⟩, 44, 0) := by decide +kernel
  have e2 : histtext_Parse [111, 98, 106, 101, 99, 116, 32, 49, 32, 49, 32, 48, 32, 48, 10, 114, 101, 116, 32, 49, 32, 55] = (⟨⟨0, 0, 0, []⟩, []⟩, 15, 33) := by decide +kernel
  have e3 : histtext_Parse [111, 98, 106, 101, 99, 116, 32, 49, 32, 49, 32, 48, 32, 48, 10, 99, 97, 108, 108, 32, 49, 32, 49] = (⟨⟨0, 0, 0, []⟩, []⟩, 22, 7) := by decide +kernel
  have hc : caseE ⟨1, 1, 0, [⟨0, 0, 0, 7⟩]⟩ [⟨1, 1, 0⟩, ⟨2, 1, 7⟩] = 0 := by decide +kernel
  have hk : histtext_Check ⟨⟨1, 1, 0, [⟨0, 0, 0, 7⟩]⟩, [⟨1, 1, 0⟩, ⟨2, 1, 7⟩]⟩ = 0 := hc
  have hk2 : histtext_Check ⟨⟨0, 0, 0, []⟩, []⟩ = 2 := by decide +kernel
  have e4 : histtext_Print ⟨⟨1, 1, 0, [⟨0, 0, 0, 7⟩]⟩, [⟨1, 1, 0⟩, ⟨2, 1, 7⟩]⟩ = ([111, 98, 106, 101, 99, 116, 32, 49, 32, 49, 32, 48, 32, 49, 10, 114, 111, 119, 32, 48, 32, 48, 32, 48, 32, 55, 10, 99, 97, 108, 108, 32, 49, 32, 48, 10, 114, 101, 116, 32, 49, 32, 55, 10], 0) := by
    unfold histtext_Print printH
    rw [if_neg (by simpa using hc)]
    unfold textH textB evB headNums rowNums wordsB
    have i0 : Lib.itoa 0 = [48] := itoa_d 0 (by decide)
    have i1 : Lib.itoa 1 = [49] := itoa_d 1 (by decide)
    have i7 : Lib.itoa 7 = [55] := itoa_d 7 (by decide)
    have i1' : Lib.itoa (([⟨0, 0, 0, 7⟩] : List Api_Row).length : Int) = [49] := itoa_d 1 (by decide)
    simp only [List.map_cons, List.map_nil, i0, i1, i7, i1']
    decide
  unfold VC7
  simp only [forall_eq', e1, e2, e3, e4, hk, hk2]
  have pk : ∀ o : Api_Object, 0 ≤ o.States → o.States ≤ 10 → 0 ≤ o.Kinds → o.Kinds ≤ 10 → preCk o := fun o a b c d => ⟨inR_k (by omega) (by omega), inR_k (by omega) (by omega)⟩
  refine fun _ _ => ⟨⟨⟨by decide, pk _ (by decide) (by decide) (by decide) (by decide)⟩, by decide⟩, fun _ _ _ _ => ⟨fun _ => ⟨by decide, fun _ => ⟨pk _ (by decide) (by decide) (by decide) (by decide), fun _ => ⟨pk _ (by decide) (by decide) (by decide) (by decide), rfl⟩, fun h => absurd h (by decide)⟩, fun h => absurd h (by decide)⟩, fun h => absurd h (by decide)⟩⟩
theorem same_self (c : Histtext_Case) (o : Api_Object) (l : List Api_Event) (h1 : c.Object = o) (h2 : c.Events = l) : law26_same c o l = true := by
  unfold law26_same; simp [h1, h2]
theorem v3 (s : Bs) (hv : s.length ≤ 140737488355328) : VC3 s (fun r => r = true) := by
  unfold VC3
  refine ⟨fun _ => ?_, fun _ => ?_⟩
  · rintro _ rfl; rfl
  rintro _ rfl
  intro _ _
  rintro _ rfl
  intro _ _
  rintro _ rfl
  have h1 : (histtext_Parse s).1.Object = (ref26_Parse s).1 := rfl
  have h2 : (histtext_Parse s).1.Events = (ref26_Parse s).2.1 := rfl
  have h3 : (histtext_Parse s).2.1 = (ref26_Parse s).2.2.1 := rfl
  have h4 : (histtext_Parse s).2.2 = (ref26_Parse s).2.2.2 := rfl
  rw [same_self _ _ _ h1 h2, h3, h4]
  refine ⟨fun _ => ?_, fun h => absurd h (by simp)⟩
  rintro _ rfl; rfl
theorem few_pre {o : Api_Object} {l : List Api_Event} (hk1 : inR .i64 o.States) (hk2 : inR .i64 o.Kinds) (h1 : law23_Few o = true) (h2 : l.length ≤ 200) : prePr o ∧ l.length ≤ 90000 := by
  have : o.Rows.length ≤ 300 := by simpa [law23_Few] using h1
  exact ⟨⟨by omega, hk1, hk2⟩, by omega⟩
end Go.Proofs.YtcjldfbgccmpkaaDoor
