/- A piece of the closed call, run by the kernel. No condition. -/
import Derived.Test.YtobeanopikjkeaaGreatExS
import Derived.Test.YtobeanopikjkeaaGreatSv
namespace Go.Ex
theorem UY:nc rD hD nD (eK 84 ((f5.drop 7).take 1) (tS rC) ⟨tS hC,nC⟩)=true:=by kernel_rfl
end Go.Ex
