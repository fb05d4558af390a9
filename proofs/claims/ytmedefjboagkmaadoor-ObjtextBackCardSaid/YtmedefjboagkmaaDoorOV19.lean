/- The proofs of the plain laws, all. -/
import Derived.Test.YtmedefjboagkmaaDoorOV16
set_option linter.all false
namespace Go.Proofs.YtmedefjboagkmaaDoor
end Go.Proofs.YtmedefjboagkmaaDoor
