/- A piece of the closed call, run by the kernel. No condition. -/
import Derived.Test.YtobeanopikjkeaaGreatExS
import Derived.Test.YtobeanopikjkeaaGreatSv
namespace Go.Ex
theorem UZ:nc rC hC nC (eK 84 ((f5.drop 4).take 3) (tS rB) ⟨tS hB,nB⟩)=true:=by kernel_rfl
end Go.Ex
