/- What has no linearization has none with more events. -/
import Derived.Test.YtojdelnnjhbgbaaZV14
set_option linter.all false
namespace Go.Proofs.Ytojdelnnjhbgbaa
open Go Go.Sv Go.Pu
end Go.Proofs.Ytojdelnnjhbgbaa
