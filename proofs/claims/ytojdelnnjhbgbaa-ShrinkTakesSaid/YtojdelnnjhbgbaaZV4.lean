/- Orders filled; linearizations, plain. -/
import Derived.Test.YtojdelnnjhbgbaaZV3
set_option linter.all false
namespace Go.Proofs.Ytojdelnnjhbgbaa
open Go Go.Sv Go.Pu
end Go.Proofs.Ytojdelnnjhbgbaa
