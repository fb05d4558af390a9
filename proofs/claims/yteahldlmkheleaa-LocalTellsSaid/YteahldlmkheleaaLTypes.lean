/- The types of the program as structures. -/
import Derived.Test.YteahldlmkheleaaTab
set_option linter.all false
namespace Go.Proofs.Yteahldlmkheleaa
open Go
structure aS where
  State : Int
  Kind : Int
  Next : Int
  Result : Int
  deriving DecidableEq, Inhabited
structure ai where
  ao : Int
  av : Int
  aC : Int
  Rows : List aS
  deriving DecidableEq, Inhabited
structure aa where
  ab : Int
  Kind : Int
  aA : Int
  End : Int
  Result : Int
  deriving DecidableEq, Inhabited
structure ah where
  Oper : Int
  Result : Int
  deriving DecidableEq, Inhabited
structure al where
  aY : Int
  ab : Int
  N : Int
  deriving DecidableEq, Inhabited
structure dq where
  ar : ai
  aj : List al
  deriving DecidableEq, Inhabited
structure eH where
  o : ai
  deriving DecidableEq, Inhabited
structure bC where
  done : Int
  state : Int
  deriving DecidableEq, Inhabited
structure aP where
  o : ai
  l : List aa
  done : List Bool
  failed : List (bC × Int)
  deriving DecidableEq, Inhabited
structure aR where
  ar : Int
  aH : al
  deriving DecidableEq, Inhabited
structure ak where
  ae : List ai
  aj : List aR
  deriving DecidableEq, Inhabited
structure aD where
  ar : Int
  aH : al
  deriving DecidableEq, Inhabited
end Go.Proofs.Yteahldlmkheleaa
