/- A piece of the closed call, run by the kernel. No condition. -/
import Derived.Test.YtobeanopikjkeaaGreatExS
import Derived.Test.YtobeanopikjkeaaGreatSv
namespace Go.Ex
theorem U1:nc rA hA nA (eK 84 ((f5.drop 0).take 2) .e ⟨.e,0⟩)=true:=by kernel_rfl
end Go.Ex
