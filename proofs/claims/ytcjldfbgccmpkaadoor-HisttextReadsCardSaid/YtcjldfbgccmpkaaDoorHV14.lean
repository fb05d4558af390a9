/- The laws ObjtextReads and ObjtextLines: plain. -/
import Derived.Test.YtcjldfbgccmpkaaDoorHV13
set_option linter.all false
namespace Go.Proofs.YtcjldfbgccmpkaaDoor
open Go Go.Sv Go.Pu
theorem itoa_d (k : Nat) (h : k < 10) : Lib.itoa (k : Int) = [UInt8.ofNat (48 + k)] := by rw [Lib.itoa_nonneg, Lib.decDigits_one h]
/-! Reads -/
theorem parse_ref (s : Bs) : ref24_Parse s = objtext_Parse s := by
  unfold ref24_Parse objtext_Parse
  have := said_link (token_Lines s)
  have h2 : ref05_Lines s = (token_Lines s).map fun r => r.map toRef := rfl
  rw [h2, this]
def saidR (l : List (List Token_Token)) : List (List Ref05_Token) := ref24_Said (l.map fun r => r.map toRef)
theorem saidR_cons (r : List Token_Token) (l : List (List Token_Token)) : saidR (r :: l) = if r.isEmpty then saidR l else r.map toRef :: saidR l := by
  unfold saidR ref24_Said
  rw [List.map_cons, List.filter_cons]
  cases r with
  | nil => rfl
  | cons t q => rfl
theorem saidR_next : ∀ l : List (List Token_Token), (saidR l = [] ∧ nextL l = ([], [])) ∨ saidR l = (nextL l).1.map toRef :: saidR (nextL l).2
  | [] => .inl ⟨rfl, rfl⟩
  | r :: l => by
    rw [saidR_cons, nextL_cons]
    by_cases h : r.isEmpty = true
    · rw [if_pos h, if_pos h]; exact saidR_next l
    · rw [if_neg h, if_neg h]; exact .inr rfl
theorem saidR_drop : ∀ (n : Nat) (l : List (List Token_Token)), saidR (dropSaid n l) = (saidR l).drop n
  | 0, l => rfl
  | n + 1, l => by
    show saidR (dropSaid n (nextL l).2) = _
    rw [saidR_drop n]
    rcases saidR_next l with ⟨h1, h⟩ | h1
    · rw [h, h1]; simp [saidR, ref24_Said]
    · rw [h1]; rfl
theorem take_rest {l : List (List Token_Token)} (e : Int) (hp : preOf l) : preOf (objtext_Take l e).2.1 := by
  unfold objtext_Take
  split
  · exact ⟨by simp, by simp⟩
  · obtain ⟨h1, h2⟩ := drop_mem (takeAll (linesP l) e).2.1.toNat l
    exact ⟨Nat.le_trans h2 hp.1, fun r hr => hp.2 r (h1 r hr)⟩
end Go.Proofs.YtcjldfbgccmpkaaDoor
