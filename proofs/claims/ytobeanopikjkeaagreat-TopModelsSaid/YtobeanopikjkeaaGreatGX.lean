/- Count, Nth and the closed call, chained. No condition. -/
import Derived.Test.YtobeanopikjkeaaGreatGRN
import Derived.Test.YtobeanopikjkeaaGreatExR
import Derived.Test.YtobeanopikjkeaaGreatGV29
set_option linter.all false
namespace Go.Proofs.YtobeanopikjkeaaGreat
open Go Go.Sv
theorem t211:S211:=C211 v211
theorem t164:S164:=C164 t211 v164
theorem t269:S269:=C269 t211 v269
theorem t212:S212:=C212 t269 v212
theorem t165:S165:=C165 t212 v165
theorem t119:S119:=C119 t164 t165 v119
theorem t167:S167:=C167 v167
theorem ES:S213_167:=C213_167 t167 v213_167
theorem ET:S166_167:=C166_167 ES v166_167
theorem t120:S120:=C120 t165 ET v120
theorem t78:S78:=C78 t119 t120 v78
theorem t27:S27:=C27 t78 v27
theorem t75:S75:=C75 v75
theorem t76:S76:=C76 v76
theorem HU:S118_76:=C118_76 t76 v118_76
theorem ER:S77_76:=C77_76 HU v77_76
theorem t31:S31:=C31 v31
theorem x7:S7:=w7 t27 t75 ER
theorem x9:S9:=w9 t27 t31 t75 ER
theorem x5:S5:=Go.Ex.RF x7
end Go.Proofs.YtobeanopikjkeaaGreat
