/- The document's answers: operations, the owner of an event, what is left, beginnings one by one. -/
import Derived.Test.YtojdelnnjhbgbaaZV16
set_option linter.all false
namespace Go.Proofs.Ytojdelnnjhbgbaa
open Go Go.Sv Go.Pu
end Go.Proofs.Ytojdelnnjhbgbaa
