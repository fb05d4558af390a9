/- Lemmas. -/
import Derived.Test.YteahldlmkheleaaGreatLV26
set_option linter.all false
namespace Go.Proofs.YteahldlmkheleaaGreat
open Go Go.Sv Go.Pu
end Go.Proofs.YteahldlmkheleaaGreat
