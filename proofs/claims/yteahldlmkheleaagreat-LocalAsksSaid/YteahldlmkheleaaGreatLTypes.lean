/- Definitions. -/
import Derived.Test.YteahldlmkheleaaGreatTab
set_option linter.all false
namespace Go.Proofs.YteahldlmkheleaaGreat
open Go
structure ba where
  State:Int
  Kind:Int
  Next:Int
  Result:Int
  deriving DecidableEq,Inhabited
structure ae where
  ar:Int
  aw:Int
  aC:Int
  Rows:List ba
  deriving DecidableEq,Inhabited
structure ab where
  aj:Int
  Kind:Int
  aE:Int
  End:Int
  Result:Int
  deriving DecidableEq,Inhabited
structure aa where
  Oper:Int
  Result:Int
  deriving DecidableEq,Inhabited
structure au where
  bh:Int
  aj:Int
  N:Int
  deriving DecidableEq,Inhabited
structure fO where
  ax:ae
  al:List au
  deriving DecidableEq,Inhabited
structure gU where
  o:ae
  deriving DecidableEq,Inhabited
structure b6 where
  done:Int
  state:Int
  deriving DecidableEq,Inhabited
structure a9 where
  o:ae
  l:List ab
  done:List Bool
  failed:List (b6 × Int)
  deriving DecidableEq,Inhabited
structure aR where
  ax:Int
  aI:au
  deriving DecidableEq,Inhabited
structure ak where
  ah:List ae
  al:List aR
  deriving DecidableEq,Inhabited
structure az where
  ax:Int
  aI:au
  deriving DecidableEq,Inhabited
end Go.Proofs.YteahldlmkheleaaGreat
