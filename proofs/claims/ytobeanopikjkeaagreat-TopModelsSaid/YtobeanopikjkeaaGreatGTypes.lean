/- The types of the program as structures. Definitions. -/
import Derived.Test.YtobeanopikjkeaaGreatTab
set_option linter.all false
namespace Go.Proofs.YtobeanopikjkeaaGreat
open Go
structure cG where
  State:Int
  Kind:Int
  Next:Int
  Result:Int
  deriving DecidableEq,Inhabited
structure ah where
  ab:Int
  aP:Int
  aU:Int
  Rows:List cG
  deriving DecidableEq,Inhabited
structure ae where
  Prc:Int
  Kind:Int
  aN:Int
  End:Int
  Result:Int
  deriving DecidableEq,Inhabited
structure ak where
  Oper:Int
  Result:Int
  deriving DecidableEq,Inhabited
structure aL where
  bC:Int
  ai:List (List Int)
  deriving DecidableEq,Inhabited
structure aa where
  Ops:Int
  ab:Int
  deriving DecidableEq,Inhabited
structure aW where
  Kind:Int
  A:Int
  B:Int
  deriving DecidableEq,Inhabited
structure aE where
  yes:Int
  no:Int
  deriving DecidableEq,Inhabited
structure eF where
  o:ah
  deriving DecidableEq,Inhabited
end Go.Proofs.YtobeanopikjkeaaGreat
