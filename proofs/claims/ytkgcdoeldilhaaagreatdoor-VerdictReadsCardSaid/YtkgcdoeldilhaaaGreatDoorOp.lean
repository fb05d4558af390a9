/- A row of the statements opened. No condition. -/
import Derived.Test.YtkgcdoeldilhaaaGreatDoorSw
import Derived.WalkKit
import Derived.ProofKit
import Derived.OpenShut
import Derived.ShutString
import Derived.ChangeOld
import Derived.Below
import Derived.SizedLaws
import Derived.DataShut
set_option linter.all false
namespace Go.Op
open Go Go.Sv Go.ChangeShapes Go.WideShapes Go.ChangeAt Go.RowKit
def z0 : Nat → Nat := fun _ => 0
/-- Whatever reads at type t is something of T; V is what its leaves keep to. -/
def Opens (P : Program) {α : Type} (T : TRep α) (V : α → Prop) (t : TypeId) : Prop :=
  ∀ {H : Type} (enc : TypeId × Value → H) (w : World) (base : Nat) (spare : Nat → Bool) (held : Bool) (fuel : Nat) (cs : List Value) (d : DataW H) (ps : List MemPlace),
    DataW.trod enc P w base spare held fuel t cs = some (d, ps) → (d.weights P t).all (· ≤ reachBytes) = true → ∃ y, T.R w z0 cs y ∧ V y
variable {P : Program} {t e : TypeId}
theorem o_str (ht : P.underlying t = some .string) : Opens P tStr (fun s => s.length ≤ 140737488355328) t := by
  intro H enc w base spare held fuel cs d ps h hw
  obtain ⟨s, rfl, hd, _⟩ := DataW.trod_string ht h
  simp only [Prod.mk.injEq] at hd
  obtain ⟨rfl, -⟩ := hd
  refine ⟨s.data.toList, ?_, ?_⟩
  · show [Value.string s] = [Value.string (bs s.data.toList)]
    simp [bs]
  · simp [DataW.weights] at hw
    simp only [reachBytes] at hw
    have h1 : s.data.toList.length = s.data.size := rfl
    have h2 : s.size = s.data.size := rfl
    omega
theorem len1 {l : List Value} (h : l.length = 1) : ∃ a, l = [a] := by match l, h with | [a], _ => exact ⟨_, rfl⟩
theorem sz_cons {H : Type} {ts : List TypeId} {d : DataW H} {ds : List (DataW H)} (h : (DataW.weightsEach P (t :: ts) (d :: ds)).all (· ≤ reachBytes) = true) :
    (d.weights P t).all (· ≤ reachBytes) = true ∧ (DataW.weightsEach P ts ds).all (· ≤ reachBytes) = true := by
  simpa only [DataW.weightsEach, List.all_append, Bool.and_eq_true] using h
theorem below {f : FuncId} {vals : Array Value} {w : World} {post : World → (Nat → Nat) → Value → Prop} (h : Ret P f vals xnone w z0 post) :
    Calls P f vals w fun e w' => (∃ v χ', e = .returned v ∧ post w' χ' v) ∧ Below w.heap.size w w' :=
  Calls.mono h fun e w' ⟨v, χ', he, ev, hp⟩ => ⟨⟨v, χ', he, hp⟩, ev.os, ev.tape, ev.output, ev.size, fun k hk => (ev.keep k hk rfl).1⟩
theorem one_string {w : World} {r : Reach} {b : Nat} {v : Value} (ht : P.underlying t = some .string) (h : Value.okWide P w r b t v) : v.cells.toList = [v] := by
  obtain ⟨_, rfl⟩ := okWide_string ht h; rfl
theorem head_eq {a b : Value} (h : [a] = [b]) : a = b := by simpa using h
end Go.Op
