/- The document's orders, and all linearizations by them. -/
import Derived.Test.YteahldlmkheleaaGreatLV9
set_option linter.all false
namespace Go.Proofs.YteahldlmkheleaaGreat
open Go Go.Sv Go.Pu
end Go.Proofs.YteahldlmkheleaaGreat
