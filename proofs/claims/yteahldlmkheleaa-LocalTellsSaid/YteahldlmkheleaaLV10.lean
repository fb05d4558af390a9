/- The document's orders, and all linearizations by them. -/
import Derived.Test.YteahldlmkheleaaLV9
set_option linter.all false
namespace Go.Proofs.Yteahldlmkheleaa
open Go Go.Sv Go.Pu
end Go.Proofs.Yteahldlmkheleaa
