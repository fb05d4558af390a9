/- The types of the program as structures. Definitions. -/
import Derived.Test.YtomodhnocjmfpaaTab
set_option linter.all false
namespace Go.Proofs.Ytomodhnocjmfpaa
open Go
structure Api_Row where
  State : Int
  Kind : Int
  Next : Int
  Result : Int
  deriving DecidableEq, Inhabited
structure Api_Object where
  States : Int
  Kinds : Int
  Init : Int
  Rows : List Api_Row
  deriving DecidableEq, Inhabited
structure Api_Oper where
  Prc : Int
  Kind : Int
  Start : Int
  End : Int
  Result : Int
  deriving DecidableEq, Inhabited
structure Api_Pick where
  Oper : Int
  Result : Int
  deriving DecidableEq, Inhabited
structure Run_table where
  o : Api_Object
  deriving DecidableEq, Inhabited
structure Search_spot where
  done : Int
  state : Int
  deriving DecidableEq, Inhabited
structure Search_seeker where
  o : Api_Object
  l : List Api_Oper
  done : List Bool
  failed : List (Search_spot × Int)
  deriving DecidableEq, Inhabited
end Go.Proofs.Ytomodhnocjmfpaa
