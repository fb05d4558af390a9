import Derived.Test.YteahldlmkheleaaGreatTab
set_option linter.all false
namespace Go.Proofs.YteahldlmkheleaaGreat
open Go
structure a8 where
  State:Int
  Kind:Int
  Next:Int
  Result:Int
  deriving DecidableEq,Inhabited
structure ah where
  ar:Int
  aw:Int
  aE:Int
  Rows:List a8
  deriving DecidableEq,Inhabited
structure ab where
  aj:Int
  Kind:Int
  aF:Int
  End:Int
  Result:Int
  deriving DecidableEq,Inhabited
structure aa where
  Oper:Int
  Result:Int
  deriving DecidableEq,Inhabited
structure av where
  bk:Int
  aj:Int
  N:Int
  deriving DecidableEq,Inhabited
structure fw where
  ax:ah
  ao:List av
  deriving DecidableEq,Inhabited
structure gQ where
  o:ah
  deriving DecidableEq,Inhabited
structure bX where
  done:Int
  state:Int
  deriving DecidableEq,Inhabited
structure aX where
  o:ah
  l:List ab
  done:List Bool
  failed:List (bX × Int)
  deriving DecidableEq,Inhabited
structure ba where
  ax:Int
  aS:av
  deriving DecidableEq,Inhabited
structure ak where
  ae:List ah
  ao:List ba
  deriving DecidableEq,Inhabited
structure aD where
  ax:Int
  aS:av
  deriving DecidableEq,Inhabited
end Go.Proofs.YteahldlmkheleaaGreat
