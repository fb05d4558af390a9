import Derived.Test.YteahldlmkheleaaGreatTab
set_option linter.all false
namespace Go.Proofs.YteahldlmkheleaaGreat
open Go
structure a9 where
  State:Int
  Kind:Int
  Next:Int
  Result:Int
  deriving DecidableEq,Inhabited
structure al where
  aq:Int
  ax:Int
  aE:Int
  Rows:List a9
  deriving DecidableEq,Inhabited
structure ab where
  ah:Int
  Kind:Int
  aD:Int
  End:Int
  Result:Int
  deriving DecidableEq,Inhabited
structure aa where
  Oper:Int
  Result:Int
  deriving DecidableEq,Inhabited
structure au where
  bh:Int
  ah:Int
  N:Int
  deriving DecidableEq,Inhabited
structure eZ where
  aw:al
  ak:List au
  deriving DecidableEq,Inhabited
structure gU where
  o:al
  deriving DecidableEq,Inhabited
structure bW where
  done:Int
  state:Int
  deriving DecidableEq,Inhabited
structure aX where
  o:al
  l:List ab
  done:List Bool
  failed:List (bW × Int)
  deriving DecidableEq,Inhabited
structure aR where
  aw:Int
  aK:au
  deriving DecidableEq,Inhabited
structure aj where
  ae:List al
  ak:List aR
  deriving DecidableEq,Inhabited
structure aH where
  aw:Int
  aK:au
  deriving DecidableEq,Inhabited
end Go.Proofs.YteahldlmkheleaaGreat
