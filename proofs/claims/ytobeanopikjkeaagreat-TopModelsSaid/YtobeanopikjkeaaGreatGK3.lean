/- What the row says of the program is so. No condition. -/
import Derived.Test.YtobeanopikjkeaaGreatGK1
import Derived.Test.YtobeanopikjkeaaGreatGK2
set_option linter.all false
namespace Go.Proofs.YtobeanopikjkeaaGreat
open Go Go.Proofs
theorem fv {a b:Bool} (h:a=true) (k:b=true):(a && b)=true:=by rw [h,k]; rfl
set_option maxRecDepth 100000 in
theorem Jg:joinedFacts Tryz.prog 3 Tryz.f3 Rows.topModelsSpec Rows.topModelsRow=true :=
  fv (fv (fv (fv (fv (fv (fv (fv (fv (fv (fv (fv (fv (fv (fv (fv (fv (fv (fv (fv (fv (fv (fv (fv (fv (fv (fv (fv (fv (fv (fv QD QC) QB) QA) Qz) Qy) Qx) Qw) Qv) Ny) Nx) Nv) Nu) Nt) Ns) Nr) Nq) I8) Np) Nn) Nm) Nl) Nk) Nj) I7) Ni) I6) I5) (by kernel_rfl)) Nh) Ng) Nf
end Go.Proofs.YtobeanopikjkeaaGreat
