/- All ways on, and the first of them; plain. -/
import Derived.Test.YtojdelnnjhbgbaaZV6
set_option linter.all false
namespace Go.Proofs.Ytojdelnnjhbgbaa
open Go Go.Sv Go.Pu
end Go.Proofs.Ytojdelnnjhbgbaa
