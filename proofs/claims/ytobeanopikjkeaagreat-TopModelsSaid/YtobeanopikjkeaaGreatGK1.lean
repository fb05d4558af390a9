/- What the row says of the program is so. No condition. -/
import Derived.Test.YtobeanopikjkeaaGreatRows
import Derived.JoinedOf
set_option linter.all false
namespace Go.Proofs.YtobeanopikjkeaaGreat
open Go Go.Proofs
theorem QD:Rows.topModelsRow.wf (OpenSpec.ofChange Rows.topModelsSpec)=true:=by kernel_rfl
theorem QC:laidOutB Tryz.prog=true:=by kernel_rfl
theorem QB:mapsRowed Tryz.prog=true:=by kernel_rfl
theorem QA:Tryz.f3.params.all (Tryz.prog.readableRec ·)=true:=by kernel_rfl
theorem Qz:namedTie Tryz.prog Rows.topModelsRow.named Rows.topModelsSpec.vars=true:=by kernel_rfl
theorem Qy:(Rows.topModelsRow.stops == [])=true:=by kernel_rfl
theorem Qx:(Tryz.prog.stops == [])=true:=by kernel_rfl
theorem Qw:(Rows.topModelsRow.knobs == [])=true:=by kernel_rfl
theorem Qv:(Tryz.prog.stopKnobs == [])=true:=by kernel_rfl
theorem Nt:(Rows.topModelsRow.maps == (Tryz.f3.params.toList++Rows.topModelsSpec.plain.varTypes Tryz.prog).any (Tryz.prog.mapsRec ·))=true:=by kernel_rfl
theorem Ns:(Rows.topModelsRow.ifaces == (Tryz.f3.params.toList++Rows.topModelsSpec.plain.varTypes Tryz.prog).any (Tryz.prog.ifacesRec ·))=true:=by kernel_rfl
theorem Nr:(Rows.topModelsRow.mapsOut == Tryz.prog.mapsAmong Tryz.f3.resultTypes.toList)=true:=by kernel_rfl
theorem Nq:(Rows.topModelsRow.loops == (Tryz.f3.params.toList++Rows.topModelsSpec.plain.varTypes Tryz.prog).any (Tryz.prog.loopsFrom ·))=true:=by kernel_rfl
theorem I8:(Rows.topModelsRow.wideKeys == (Tryz.f3.params.toList++Rows.topModelsSpec.plain.varTypes Tryz.prog++Tryz.f3.resultTypes.toList).any (Tryz.prog.wideKeysFrom ·))=true:=by kernel_rfl
theorem Np:Rows.topModelsSpec.vars.all (Tryz.prog.varReadable ·)=true:=by kernel_rfl
theorem Nn:Tryz.f3.resultTypes.all (fun t=>Tryz.prog.readableRec t && decide (t < Tryz.prog.types.size))=true:=by kernel_rfl
theorem Nm:(Rows.topModelsRow.ifacesOut == Tryz.f3.resultTypes.toList.any (Tryz.prog.ifacesRec ·))=true:=by kernel_rfl
theorem Nl:(Rows.topModelsRow.loopsOut == Tryz.f3.resultTypes.toList.any (Tryz.prog.loopsFrom ·))=true:=by kernel_rfl
theorem Nk:(Rows.topModelsRow.plainKeys == Tryz.prog.plainKeys)=true:=by kernel_rfl
theorem Nj:Rows.topModelsRow.shortTexts.isNone=true:=by kernel_rfl
theorem I7:Tryz.prog.stopsHeard=true:=by kernel_rfl
theorem Ni:Tryz.prog.mayEnter=true:=by kernel_rfl
theorem I6:(Rows.topModelsRow.lifted == Tryz.prog.liftsFinal)=true:=by kernel_rfl
theorem I5:(Tryz.prog.make == some Rows.topModelsRow.make)=true:=by kernel_rfl
theorem Nh:(Rows.topModelsRow.pinned == Rows.topModelsRow.pinnedBy)=true:=by kernel_rfl
theorem Ng:(Rows.topModelsRow.veiled == (Tryz.f3.params.toList++Rows.topModelsSpec.plain.varTypes Tryz.prog++Tryz.f3.resultTypes.toList).any (Tryz.prog.veiledRec ·))=true:=by kernel_rfl
theorem Nf:Rows.topModelsRow.veiledFits Tryz.prog Tryz.f3.params.toList (Tryz.f3.params.toList++Rows.topModelsSpec.plain.varTypes Tryz.prog++Tryz.f3.resultTypes.toList)=true:=by kernel_rfl
end Go.Proofs.YtobeanopikjkeaaGreat
