/- Lemmas. Conditions: their own. -/
import Derived.Test.YtmgahplojkmcaaaGreatRows
import Derived.JoinedOf
set_option linter.all false
namespace Go.Proofs.YtmgahplojkmcaaaGreat
open Go Go.Proofs
section
noncomputable abbrev tW:=Rows.topForeignRow
noncomputable abbrev tS:=Rows.topForeignSpec
noncomputable abbrev tP:=Tryz.prog
theorem ag4:tW.wf (OpenSpec.ofChange tS)=true:=by kernel_rfl
theorem ag3:laidOutB tP=true:=by kernel_rfl
theorem ag2:mapsRowed tP=true:=by kernel_rfl
theorem ag1:Tryz.f3.params.all (tP.readableRec ·)=true:=by kernel_rfl
theorem ag0:namedTie tP tW.named tS.vars=true:=by kernel_rfl
theorem agZ:(tW.stops==[])=true:=by kernel_rfl
theorem agY:(tP.stops==[])=true:=by kernel_rfl
theorem agX:(tW.knobs==[])=true:=by kernel_rfl
theorem agW:(tP.stopKnobs==[])=true:=by kernel_rfl
theorem acR:(tW.maps==(Tryz.f3.params.toList++tS.plain.varTypes tP).any (tP.mapsRec ·))=true:=by kernel_rfl
theorem acQ:(tW.ifaces==(Tryz.f3.params.toList++tS.plain.varTypes tP).any (tP.ifacesRec ·))=true:=by kernel_rfl
theorem acP:(tW.mapsOut==tP.mapsAmong Tryz.f3.resultTypes.toList)=true:=by kernel_rfl
theorem acO:(tW.loops==(Tryz.f3.params.toList++tS.plain.varTypes tP).any (tP.loopsFrom ·))=true:=by kernel_rfl
theorem Yj:(tW.wideKeys==(Tryz.f3.params.toList++tS.plain.varTypes tP++Tryz.f3.resultTypes.toList).any (tP.wideKeysFrom ·))=true:=by kernel_rfl
theorem acN:tS.vars.all (tP.varReadable ·)=true:=by kernel_rfl
theorem acM:Tryz.f3.resultTypes.all (λt=>tP.readableRec t&&decide (t<tP.types.size))=true:=by kernel_rfl
theorem acL:(tW.ifacesOut==Tryz.f3.resultTypes.toList.any (tP.ifacesRec ·))=true:=by kernel_rfl
theorem acK:(tW.loopsOut==Tryz.f3.resultTypes.toList.any (tP.loopsFrom ·))=true:=by kernel_rfl
theorem acJ:(tW.plainKeys==tP.plainKeys)=true:=by kernel_rfl
theorem acI:tW.shortTexts.isNone=true:=by kernel_rfl
theorem Yi:tP.stopsHeard=true:=by kernel_rfl
theorem acH:tP.mayEnter=true:=by kernel_rfl
theorem Yh:(tW.lifted==tP.liftsFinal)=true:=by kernel_rfl
theorem Yg:(tP.make==some tW.make)=true:=by kernel_rfl
theorem acG:(tW.pinned==tW.pinnedBy)=true:=by kernel_rfl
theorem acF:(tW.veiled==(Tryz.f3.params.toList++tS.plain.varTypes tP++Tryz.f3.resultTypes.toList).any (tP.veiledRec ·))=true:=by kernel_rfl
theorem acE:tW.veiledFits tP Tryz.f3.params.toList (Tryz.f3.params.toList++tS.plain.varTypes tP++Tryz.f3.resultTypes.toList)=true:=by kernel_rfl
end
end Go.Proofs.YtmgahplojkmcaaaGreat
