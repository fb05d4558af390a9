/-
  No cell of these rows narrows 'for every input' (looked for: loops, veiled, ifaces, maps, wideKeys, modest, calm, conditions, laid).
  DERIVED. THE GIVEN ROWS OF THIS SEAT. 4 by the template 'for every input the law returns true; each argument reads behind the call as it read before'; 0 by the template 'total and deterministic' (their statements: YtojdelnnjhbgbaaTotals.lean).
  GIVEN WITH THE SEED: the statements are not yours to turn. If you find one false, say at which input.
  Laid BY PROGRAM, IN A SANDBOX (cutbox-rows.mjs): the forced cells as the released guide's own fill.sh prints them over the translation 509c64626259105b… (all of the seat's roots in one cut). By AI agents, Wed Nov 11 2026. No macro, syntax, notation, axiom, sorry.
-/
import Derived.Test.YtojdelnnjhbgbaaChecked
import GoSem.Claim
import GoSem.ClaimJoined
import GoSem.ClaimMapViews
import Derived.JoinedTies
import Derived.KernelRfl
namespace Go.Proofs.Ytojdelnnjhbgbaa
/- THE CELL 'sum', in the pinned program and in every row, IS THE sha256 OF THE DUMP (.gsa) THAT YtojdelnnjhbgbaaProg.lean LOADS. Nothing in Lean hashes anything: it is a label: what it is worth is what the hold of that sum in a sandbox is worth. -/
noncomputable def Try.pinned : Pinned := { name := "ytojdelnnjhbgbaa", sum := "509c64626259105b894904b46f704063694d2ee559fa3768caecbf3a22083b6b", checked := Try.checked }
namespace Rows
def none {H : Type} : Left H := { results := [], args := [] }

/-- 'replevinlaw41.ShrinkTells': WHATEVER THE INPUT: true; the input reads as it did. -/
def shrinkTellsSpec : ChangeSpec := { name := "shrinkTells", fn := fun _ => fun
  | [d1, d2] => { results := [.lit (.bool true)], args := [d1, d2] }
  | _ => none }
def shrinkTellsRow : OpenClaim := { program := "ytojdelnnjhbgbaa", sum := "509c64626259105b894904b46f704063694d2ee559fa3768caecbf3a22083b6b", func := "replevin/replevinlaw41.ShrinkTells", spec := "shrinkTells", unfollowed := true, recurses := true, plainKeys := false, apart := false }
def ShrinkTellsSaid : Prop := shrinkTellsRow.holds Try.pinned (OpenSpec.ofChange shrinkTellsSpec)

/-- ITS FALSE NEIGHBOUR: 'it returns false'. Refute it at one input. -/
def shrinkTellsWrong : ChangeSpec := { name := "shrinkTells", fn := fun _ => fun
  | [d1, d2] => { results := [.lit (.bool false)], args := [d1, d2] }
  | _ => none }
def ShrinkTellsWrongFalsely : Prop := shrinkTellsRow.holds Try.pinned (OpenSpec.ofChange shrinkTellsWrong)

/-- 'replevinlaw41.ShrinkTakes': WHATEVER THE INPUT: true; the input reads as it did. -/
def shrinkTakesSpec : ChangeSpec := { name := "shrinkTakes", fn := fun _ => fun
  | [d1, d2] => { results := [.lit (.bool true)], args := [d1, d2] }
  | _ => none }
def shrinkTakesRow : OpenClaim := { program := "ytojdelnnjhbgbaa", sum := "509c64626259105b894904b46f704063694d2ee559fa3768caecbf3a22083b6b", func := "replevin/replevinlaw41.ShrinkTakes", spec := "shrinkTakes", unfollowed := true, recurses := true, plainKeys := false, apart := false }
def ShrinkTakesSaid : Prop := shrinkTakesRow.holds Try.pinned (OpenSpec.ofChange shrinkTakesSpec)

/-- ITS FALSE NEIGHBOUR: 'it returns false'. Refute it at one input. -/
def shrinkTakesWrong : ChangeSpec := { name := "shrinkTakes", fn := fun _ => fun
  | [d1, d2] => { results := [.lit (.bool false)], args := [d1, d2] }
  | _ => none }
def ShrinkTakesWrongFalsely : Prop := shrinkTakesRow.holds Try.pinned (OpenSpec.ofChange shrinkTakesWrong)

/-- 'replevinlaw41.ShrinkLeast': WHATEVER THE INPUT: true; the input reads as it did. -/
def shrinkLeastSpec : ChangeSpec := { name := "shrinkLeast", fn := fun _ => fun
  | [d1, d2, d3] => { results := [.lit (.bool true)], args := [d1, d2, d3] }
  | _ => none }
def shrinkLeastRow : OpenClaim := { program := "ytojdelnnjhbgbaa", sum := "509c64626259105b894904b46f704063694d2ee559fa3768caecbf3a22083b6b", func := "replevin/replevinlaw41.ShrinkLeast", spec := "shrinkLeast", unfollowed := true, recurses := true, plainKeys := false, apart := false }
def ShrinkLeastSaid : Prop := shrinkLeastRow.holds Try.pinned (OpenSpec.ofChange shrinkLeastSpec)

/-- ITS FALSE NEIGHBOUR: 'it returns false'. Refute it at one input. -/
def shrinkLeastWrong : ChangeSpec := { name := "shrinkLeast", fn := fun _ => fun
  | [d1, d2, d3] => { results := [.lit (.bool false)], args := [d1, d2, d3] }
  | _ => none }
def ShrinkLeastWrongFalsely : Prop := shrinkLeastRow.holds Try.pinned (OpenSpec.ofChange shrinkLeastWrong)

/-- 'replevinlaw41.ShrinkStays': WHATEVER THE INPUT: true; the input reads as it did. -/
def shrinkStaysSpec : ChangeSpec := { name := "shrinkStays", fn := fun _ => fun
  | [d1, d2] => { results := [.lit (.bool true)], args := [d1, d2] }
  | _ => none }
def shrinkStaysRow : OpenClaim := { program := "ytojdelnnjhbgbaa", sum := "509c64626259105b894904b46f704063694d2ee559fa3768caecbf3a22083b6b", func := "replevin/replevinlaw41.ShrinkStays", spec := "shrinkStays", unfollowed := true, recurses := true, plainKeys := false, apart := false }
def ShrinkStaysSaid : Prop := shrinkStaysRow.holds Try.pinned (OpenSpec.ofChange shrinkStaysSpec)

/-- ITS FALSE NEIGHBOUR: 'it returns false'. Refute it at one input. -/
def shrinkStaysWrong : ChangeSpec := { name := "shrinkStays", fn := fun _ => fun
  | [d1, d2] => { results := [.lit (.bool false)], args := [d1, d2] }
  | _ => none }
def ShrinkStaysWrongFalsely : Prop := shrinkStaysRow.holds Try.pinned (OpenSpec.ofChange shrinkStaysWrong)

/- THE SECOND FORM. 'bulk': how many values and letters a reading holds, each counted each time it is reached (what is shared counts as often as it is met; a slice's spare places count too). A statement '..UptoSaid' is the law's where the arguments, and the package variables that the reading takes, are together of bulk at most 1048576: NARROWER than '..Said'. Prove '..Said' where nothing that the law and all that it calls make is longer than what came in: it says more and counts as full. Else prove '..UptoSaid'. A law counts once. -/
mutual
def uptoBulk {H : Type} : DataW H → Nat
  | .lit (.string bytes) => bytes.length + 1
  | .lit _ => 1
  | .nil => 1
  | .ptr d => uptoBulk d + 1
  | .slice elems spare => uptoBulkAll elems + uptoBulkAll spare + 1
  | .agg parts => uptoBulkAll parts + 1
  | .iface _ d => uptoBulk d + 1
  | .map entries => uptoBulkEntries entries + 1
  | .held _ => 1
def uptoBulkAll {H : Type} : List (DataW H) → Nat
  | [] => 0
  | d :: r => uptoBulk d + uptoBulkAll r
def uptoBulkEntries {H : Type} : List (Lit × DataW H) → Nat
  | [] => 0
  | x :: r => uptoBulkEntry x + uptoBulkEntries r
def uptoBulkEntry {H : Type} : Lit × DataW H → Nat
  | (.string bytes, d) => bytes.length + uptoBulk d + 1
  | (_, d) => uptoBulk d + 1
 end
def uptoSmall : (H : Type) → List (DataW H) → Bool := fun _ ds => decide (uptoBulkAll ds ≤ 1048576)
def OpenSpec.upto (s : _root_.Go.ChangeSpec) : _root_.Go.OpenSpec := { _root_.Go.OpenSpec.ofChange s with cond := some uptoSmall }

/-- 'replevinlaw41.ShrinkTells', WHERE WHAT IT READS IS OF BULK AT MOST 1048576: true; the input reads as it did. -/
def shrinkTellsUptoRow : OpenClaim := { program := "ytojdelnnjhbgbaa", sum := "509c64626259105b894904b46f704063694d2ee559fa3768caecbf3a22083b6b", func := "replevin/replevinlaw41.ShrinkTells", spec := "shrinkTells", unfollowed := true, recurses := true, plainKeys := false, apart := false, narrowed := true }
def ShrinkTellsUptoSaid : Prop := shrinkTellsUptoRow.holds Try.pinned (OpenSpec.upto shrinkTellsSpec)

/-- 'replevinlaw41.ShrinkTakes', WHERE WHAT IT READS IS OF BULK AT MOST 1048576: true; the input reads as it did. -/
def shrinkTakesUptoRow : OpenClaim := { program := "ytojdelnnjhbgbaa", sum := "509c64626259105b894904b46f704063694d2ee559fa3768caecbf3a22083b6b", func := "replevin/replevinlaw41.ShrinkTakes", spec := "shrinkTakes", unfollowed := true, recurses := true, plainKeys := false, apart := false, narrowed := true }
def ShrinkTakesUptoSaid : Prop := shrinkTakesUptoRow.holds Try.pinned (OpenSpec.upto shrinkTakesSpec)

/-- 'replevinlaw41.ShrinkLeast', WHERE WHAT IT READS IS OF BULK AT MOST 1048576: true; the input reads as it did. -/
def shrinkLeastUptoRow : OpenClaim := { program := "ytojdelnnjhbgbaa", sum := "509c64626259105b894904b46f704063694d2ee559fa3768caecbf3a22083b6b", func := "replevin/replevinlaw41.ShrinkLeast", spec := "shrinkLeast", unfollowed := true, recurses := true, plainKeys := false, apart := false, narrowed := true }
def ShrinkLeastUptoSaid : Prop := shrinkLeastUptoRow.holds Try.pinned (OpenSpec.upto shrinkLeastSpec)

/-- 'replevinlaw41.ShrinkStays', WHERE WHAT IT READS IS OF BULK AT MOST 1048576: true; the input reads as it did. -/
def shrinkStaysUptoRow : OpenClaim := { program := "ytojdelnnjhbgbaa", sum := "509c64626259105b894904b46f704063694d2ee559fa3768caecbf3a22083b6b", func := "replevin/replevinlaw41.ShrinkStays", spec := "shrinkStays", unfollowed := true, recurses := true, plainKeys := false, apart := false, narrowed := true }
def ShrinkStaysUptoSaid : Prop := shrinkStaysUptoRow.holds Try.pinned (OpenSpec.upto shrinkStaysSpec)

end Rows
end Go.Proofs.Ytojdelnnjhbgbaa
