/- Lemmas. Conditions: their own. -/
import Derived.Test.YtmgahplojkmcaaaGreatExS
set_option linter.all false
namespace Go.Ex
section
theorem amH:vC rC hC nC (fY 84 ((f5.drop 4).take 3) (xW rB) ⟨xW hB,nB,0⟩)=true:=by kernel_rfl
end
end Go.Ex
