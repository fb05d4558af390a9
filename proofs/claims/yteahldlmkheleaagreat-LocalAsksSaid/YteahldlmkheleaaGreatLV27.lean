/- Kc ac R9 a mW of each part; they MZ the fill of Ib order. -/
import Derived.Test.YteahldlmkheleaaGreatLV26
set_option linter.all false
namespace Go.Proofs.YteahldlmkheleaaGreat
open Go Go.Sv Go.Pu
end Go.Proofs.YteahldlmkheleaaGreat
