/- The types of the program as structures. Definitions. -/
import Derived.Test.YtebhbnlbfglmkaaDoorTab
set_option linter.all false
namespace Go.Proofs.YtebhbnlbfglmkaaDoor
open Go
structure Token_Token where
  Line : Int
  At : Int
  Text : List UInt8
  deriving DecidableEq, Inhabited
structure Ref05_Token where
  Line : Int
  At : Int
  Text : List UInt8
  deriving DecidableEq, Inhabited
structure Api_Step where
  Kind : Int
  Id : Int
  Lits : List Int
  Hints : List Int
  deriving DecidableEq, Inhabited
structure Proof_line where
  rest : List Token_Token
  at_ : Int
  e : Int
  deriving DecidableEq, Inhabited
structure Ref10_Row where
  L : List Int
  Taken : Int
  At : Int
  E : Int
  deriving DecidableEq, Inhabited
end Go.Proofs.YtebhbnlbfglmkaaDoor
