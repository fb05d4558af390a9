/- The types of the program as structures. Definitions. -/
import Derived.Test.YtnhdgebboafliaaTab
set_option linter.all false
namespace Go.Proofs.Ytnhdgebboafliaa
open Go
structure Api_Row where
  State : Int
  Kind : Int
  Next : Int
  Result : Int
  deriving DecidableEq, Inhabited
structure Api_Object where
  States : Int
  Kinds : Int
  Init : Int
  Rows : List Api_Row
  deriving DecidableEq, Inhabited
structure Api_Oper where
  Prc : Int
  Kind : Int
  Start : Int
  End : Int
  Result : Int
  deriving DecidableEq, Inhabited
structure Api_Pick where
  Oper : Int
  Result : Int
  deriving DecidableEq, Inhabited
structure Run_table where
  o : Api_Object
  deriving DecidableEq, Inhabited
end Go.Proofs.Ytnhdgebboafliaa
