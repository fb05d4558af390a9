/- The search's order; a pending operation more; law 5. -/
import Derived.Test.YtojdelnnjhbgbaaZV8
set_option linter.all false
namespace Go.Proofs.Ytojdelnnjhbgbaa
open Go Go.Sv Go.Pu
theorem gi_app {l : List Api_Oper} {x : Api_Oper} {i : Int} (h0 : 0 ≤ i) (h1 : i < l.length) : gi (l ++ [x]) i = gi l i := by
  unfold gi
  rw [List.getD_eq_getElem?_getD, List.getD_eq_getElem?_getD, List.getElem?_append_left (by omega)]
end Go.Proofs.Ytojdelnnjhbgbaa
