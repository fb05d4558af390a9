/- The document's orders, and all linearizations by them. -/
import Derived.Test.YtojdelnnjhbgbaaZV9
set_option linter.all false
namespace Go.Proofs.Ytojdelnnjhbgbaa
open Go Go.Sv Go.Pu
end Go.Proofs.Ytojdelnnjhbgbaa
