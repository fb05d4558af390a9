/- Ways on are linearizations; what is found is one, and if any is there, one is found. -/
import Derived.Test.YtojdelnnjhbgbaaZV7
set_option linter.all false
namespace Go.Proofs.Ytojdelnnjhbgbaa
open Go Go.Sv Go.Pu
def linsOf (o : Api_Object) (l : List Api_Oper) : List (List Api_Pick) := allF o l (l.length + 1) o.Init (List.replicate l.length false)
end Go.Proofs.Ytojdelnnjhbgbaa
