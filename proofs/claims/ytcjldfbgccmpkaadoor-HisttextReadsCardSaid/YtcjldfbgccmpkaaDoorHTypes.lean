/- The types of the program as structures. Definitions. -/
import Derived.Test.YtcjldfbgccmpkaaDoorTab
set_option linter.all false
namespace Go.Proofs.YtcjldfbgccmpkaaDoor
open Go
structure Token_Token where
  Line : Int
  At : Int
  Text : List UInt8
  deriving DecidableEq, Inhabited
structure Ref05_Token where
  Line : Int
  At : Int
  Text : List UInt8
  deriving DecidableEq, Inhabited
structure Api_Row where
  State : Int
  Kind : Int
  Next : Int
  Result : Int
  deriving DecidableEq, Inhabited
structure Api_Object where
  States : Int
  Kinds : Int
  Init : Int
  Rows : List Api_Row
  deriving DecidableEq, Inhabited
structure Api_Event where
  What : Int
  Prc : Int
  N : Int
  deriving DecidableEq, Inhabited
structure Histtext_Case where
  Object : Api_Object
  Events : List Api_Event
  deriving DecidableEq, Inhabited
end Go.Proofs.YtcjldfbgccmpkaaDoor
