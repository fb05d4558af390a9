/- The proofs of the plain laws, all. -/
import Derived.Test.YtohbpcjnilefbaaDoorKV8
set_option linter.all false
namespace Go.Proofs.YtohbpcjnilefbaaDoor
end Go.Proofs.YtohbpcjnilefbaaDoor
