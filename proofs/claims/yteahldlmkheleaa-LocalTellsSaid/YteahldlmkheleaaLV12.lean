/- The document's linearizations are the search's; law 3. -/
import Derived.Test.YteahldlmkheleaaLV11
set_option linter.all false
namespace Go.Proofs.Yteahldlmkheleaa
open Go Go.Sv Go.Pu
end Go.Proofs.Yteahldlmkheleaa
