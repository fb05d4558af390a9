/- The types of the program as structures. Definitions. -/
import Derived.Test.YtmedefjboagkmaaDoorTab
set_option linter.all false
namespace Go.Proofs.YtmedefjboagkmaaDoor
open Go
structure Token_Token where
  Line : Int
  At : Int
  Text : List UInt8
  deriving DecidableEq, Inhabited
structure Ref05_Token where
  Line : Int
  At : Int
  Text : List UInt8
  deriving DecidableEq, Inhabited
structure Api_Row where
  State : Int
  Kind : Int
  Next : Int
  Result : Int
  deriving DecidableEq, Inhabited
structure Api_Object where
  States : Int
  Kinds : Int
  Init : Int
  Rows : List Api_Row
  deriving DecidableEq, Inhabited
end Go.Proofs.YtmedefjboagkmaaDoor
