/- The document's linearizations are the search's; law 3. -/
import Derived.Test.YteahldlmkheleaaGreatLV11
set_option linter.all false
namespace Go.Proofs.YteahldlmkheleaaGreat
open Go Go.Sv Go.Pu
end Go.Proofs.YteahldlmkheleaaGreat
