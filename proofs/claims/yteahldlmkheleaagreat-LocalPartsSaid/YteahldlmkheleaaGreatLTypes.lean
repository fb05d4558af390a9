/- The types of the program as structures. -/
import Derived.Test.YteahldlmkheleaaGreatTab
set_option linter.all false
namespace Go.Proofs.YteahldlmkheleaaGreat
open Go
structure bb where
  State:Int
  Kind:Int
  Next:Int
  Result:Int
  deriving DecidableEq,Inhabited
structure aj where
  au:Int
  az:Int
  aH:Int
  Rows:List bb
  deriving DecidableEq,Inhabited
structure ab where
  ak:Int
  Kind:Int
  aI:Int
  End:Int
  Result:Int
  deriving DecidableEq,Inhabited
structure aa where
  Oper:Int
  Result:Int
  deriving DecidableEq,Inhabited
structure aw where
  bo:Int
  ak:Int
  N:Int
  deriving DecidableEq,Inhabited
structure fP where
  aA:aj
  aq:List aw
  deriving DecidableEq,Inhabited
structure ie where
  o:aj
  deriving DecidableEq,Inhabited
structure b8 where
  done:Int
  state:Int
  deriving DecidableEq,Inhabited
structure a8 where
  o:aj
  l:List ab
  done:List Bool
  failed:List (b8 × Int)
  deriving DecidableEq,Inhabited
structure bd where
  aA:Int
  aW:aw
  deriving DecidableEq,Inhabited
structure al where
  ae:List aj
  aq:List bd
  deriving DecidableEq,Inhabited
structure aG where
  aA:Int
  aW:aw
  deriving DecidableEq,Inhabited
end Go.Proofs.YteahldlmkheleaaGreat
