/- The types of the program as structures. -/
import Derived.Test.YteahldlmkheleaaGreatTab
set_option linter.all false
namespace Go.Proofs.YteahldlmkheleaaGreat
open Go
structure bc where
  State:Int
  Kind:Int
  Next:Int
  Result:Int
  deriving DecidableEq,Inhabited
structure ao where
  au:Int
  aA:Int
  aH:Int
  Rows:List bc
  deriving DecidableEq,Inhabited
structure ab where
  ah:Int
  Kind:Int
  aG:Int
  End:Int
  Result:Int
  deriving DecidableEq,Inhabited
structure aa where
  Oper:Int
  Result:Int
  deriving DecidableEq,Inhabited
structure aw where
  bm:Int
  ah:Int
  N:Int
  deriving DecidableEq,Inhabited
structure fv where
  az:ao
  al:List aw
  deriving DecidableEq,Inhabited
structure im where
  o:ao
  deriving DecidableEq,Inhabited
structure b7 where
  done:Int
  state:Int
  deriving DecidableEq,Inhabited
structure a8 where
  o:ao
  l:List ab
  done:List Bool
  failed:List (b7 × Int)
  deriving DecidableEq,Inhabited
structure aV where
  az:Int
  aN:aw
  deriving DecidableEq,Inhabited
structure ak where
  ae:List ao
  al:List aV
  deriving DecidableEq,Inhabited
structure aK where
  az:Int
  aN:aw
  deriving DecidableEq,Inhabited
end Go.Proofs.YteahldlmkheleaaGreat
