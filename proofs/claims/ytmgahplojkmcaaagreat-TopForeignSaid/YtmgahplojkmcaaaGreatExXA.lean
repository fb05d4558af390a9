/- Lemmas. Conditions: their own. -/
import Derived.Test.YtmgahplojkmcaaaGreatExS
set_option linter.all false
namespace Go.Ex
section
theorem amJ:vC rA hA nA (fY 84 ((f5.drop 0).take 2) .e ⟨.e,0,0⟩)=true:=by kernel_rfl
end
end Go.Ex
