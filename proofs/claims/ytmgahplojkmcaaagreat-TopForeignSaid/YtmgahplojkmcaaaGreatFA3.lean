/- Lemmas. Conditions: their own. -/
import Derived.Test.YtmgahplojkmcaaaGreatFA2
set_option linter.all false
namespace Go.Proofs.YtmgahplojkmcaaaGreat
open Go Go.Proofs
section
theorem gQ{a b:Bool}(h:a=true)(k:b=true):(a&&b)=true:=by rw[h,k];rfl
set_option maxRecDepth 100000 in
theorem Yw:joinedFacts tP 3 Tryz.f3 tS tW=true :=
 gQ (gQ (gQ (gQ (gQ (gQ (gQ (gQ (gQ (gQ (gQ (gQ (gQ (gQ (gQ (gQ (gQ (gQ (gQ (gQ (gQ (gQ (gQ (gQ (gQ (gQ (gQ (gQ (gQ (gQ (gQ ag4 ag3) ag2) ag1) ag0) agZ) agY) agX) agW) acV) acU) acT) acS) acR) acQ) acP) acO) Yj) acN) acM) acL) acK) acJ) acI) Yi) acH) Yh) Yg) (by kernel_rfl)) acG) acF) acE
end
end Go.Proofs.YtmgahplojkmcaaaGreat
