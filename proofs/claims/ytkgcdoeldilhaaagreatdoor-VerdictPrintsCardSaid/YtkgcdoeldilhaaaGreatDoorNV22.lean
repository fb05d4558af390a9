/- The laws of verdicts as text: plain. -/
import Derived.Test.YtkgcdoeldilhaaaGreatDoorNV21
set_option linter.all false
namespace Go.Proofs.YtkgcdoeldilhaaaGreatDoor
open Go Go.Sv Go.Pu
theorem pickT_len {p : Api_Pick} (h : pickOK p = true) : (pickT p).length ≤ 60 := by
  obtain ⟨a, b, c, d⟩ := (pickOK_iff p).1 h
  have x := joinRow_wlen wPick [p.Oper, p.Result] (by
    intro z hz; simp at hz
    rcases hz with rfl | rfl
    · exact ⟨by show (-9223372036854775808 : Int) ≤ _; omega, by show _ ≤ (9223372036854775807 : Int); omega⟩
    · exact ⟨by show (-9223372036854775808 : Int) ≤ _; omega, by show _ ≤ (9223372036854775807 : Int); omega⟩)
  unfold pickT lineB
  have e : wPick.length = 4 := rfl
  simp only [List.length_append, List.length_cons, List.length_nil] at x ⊢; omega
theorem picksT_len : ∀ {l : List Api_Pick}, (∀ p ∈ l, pickOK p = true) → (l.flatMap pickT).length ≤ 60 * l.length
  | [], _ => by simp
  | p :: l, h => by
    have a := pickT_len (h p (by simp))
    have b := picksT_len (l := l) (fun x hx => h x (by simp [hx]))
    simp only [List.flatMap_cons, List.length_append, List.length_cons]; omega
theorem lineV_len {k : Int} (hk : 1 ≤ k ∧ k ≤ 5) {ns : List Int} (h : ∀ x ∈ ns, inR .i64 x) : (lineB (wordV k) ns).length ≤ 16 + 22 * ns.length := by
  have x := joinRow_wlen (wordV k) ns h
  have e : (wordV k).length ≤ 15 := by rcases wordV_of hk with rfl | rfl | rfl | rfl | rfl <;> decide
  unfold lineB; simp only [List.length_append, List.length_cons, List.length_nil]; omega
end Go.Proofs.YtkgcdoeldilhaaaGreatDoor
