/- A piece of the closed call, run by the kernel. No condition. -/
import Derived.Test.YtobeanopikjkeaaGreatExS
import Derived.Test.YtobeanopikjkeaaGreatSv
namespace Go.Ex
theorem U0:nc rB hB nB (eK 84 ((f5.drop 2).take 2) (tS rA) ⟨tS hA,nA⟩)=true:=by kernel_rfl
end Go.Ex
