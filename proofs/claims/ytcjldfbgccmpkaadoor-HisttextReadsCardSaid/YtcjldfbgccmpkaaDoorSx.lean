/- What the walk library got later. -/
import Derived.Test.YtcjldfbgccmpkaaDoorSw
set_option linter.all false
namespace Go.Sv
open Go
section
variable {P : Program}
variable {tab : Tab} {n : Nat} {sy : Sy} {ρ : Nat → Nat} {a : Act} {w : World} {χ : Nat → Nat} {all : List Oper}
theorem Hold.rho_eq {bxs : List (Nat × (Nat × List SV))} {w0 : World} {χ0 : Nat → Nat} {ρ' : Nat → Nat} {k : Nat} (hr : ∀ id, id ≠ k → ρ' id = ρ id) (hb : noBox k ⟨[], bxs⟩ = true) : Hold w0 χ0 bxs ρ' = Hold w0 χ0 bxs ρ :=
  funext fun _ => propext ⟨fun H => H.rho hr hb, fun H => H.rho (fun id h => (hr id h).symm) hb⟩
/-- 'take' behind a box that was made meanwhile. -/
theorem takeZ {nrm ret : Act → World → Prop} {exs : List (Nat × (Act → World → Prop))} {w0 : World} {χ0 : Nat → Nat} {bxs : List (Nat × (Nat × List SV))} {listed listed' : Array Bool} {m fuel : Nat} {sy' : Sy} {ρz : Nat → Nat} {kz : Nat} (TT : TabOK P tab) (hr : ∀ id, id ≠ kz → ρ id = ρz id) (hno : noBox kz ⟨[], bxs⟩ = true) (is bks ks : List Nat) (h : St n sy ρ a w χ)
    (hns : Region.noSelect all.toArray = true) (hn : Nat.ble n 999 = true) (hb : filt bks sy = bxs) (H : Hold w0 χ0 bxs ρz w) (e : (match symTake tab n all bks is listed sy with | some (l, s) => some (l, (⟨(keep ks [] s).regs, sy.boxes⟩ : Sy)) | none => none) = some (listed', sy')) (hf : m = fuel + is.length)
    (k : ∀ a', St n sy' ρ a' w χ → Dr P all (qs nrm ret exs) (Hold w0 χ0 bxs ρz) listed' fuel a' w) : Dr P all (qs nrm ret exs) (Hold w0 χ0 bxs ρz) listed m a w := by
  have he := Hold.rho_eq (w0 := w0) (χ0 := χ0) hr hno
  rw [← he] at H k ⊢
  exact take TT is bks ks h hns hn hb H e hf k
end
end Go.Sv
