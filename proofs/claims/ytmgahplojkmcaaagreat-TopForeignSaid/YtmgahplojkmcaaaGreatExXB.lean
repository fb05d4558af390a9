/- Lemmas. Conditions: their own. -/
import Derived.Test.YtmgahplojkmcaaaGreatExS
set_option linter.all false
namespace Go.Ex
section
theorem amI:vC rB hB nB (fY 84 ((f5.drop 2).take 2) (xW rA) ⟨xW hA,nA,0⟩)=true:=by kernel_rfl
end
end Go.Ex
