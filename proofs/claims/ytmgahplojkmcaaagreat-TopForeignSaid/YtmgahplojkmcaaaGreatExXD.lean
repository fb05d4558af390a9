/- Lemmas. Conditions: their own. -/
import Derived.Test.YtmgahplojkmcaaaGreatExS
set_option linter.all false
namespace Go.Ex
section
theorem amG:vC rD hD nD (fY 84 ((f5.drop 7).take 1) (xW rC) ⟨xW hC,nC,0⟩)=true:=by kernel_rfl
end
end Go.Ex
