/- The types of the program as structures. Definitions. -/
import Derived.Test.YtancoeikfkebfaaDoorTab
set_option linter.all false
namespace Go.Proofs.YtancoeikfkebfaaDoor
open Go
structure Token_Token where
  Line : Int
  At : Int
  Text : List UInt8
  deriving DecidableEq, Inhabited
structure Ref05_Token where
  Line : Int
  At : Int
  Text : List UInt8
  deriving DecidableEq, Inhabited
structure Api_Formula where
  Vars : Int
  Clauses : List (List Int)
  deriving DecidableEq, Inhabited
structure Dimacs_fault where
  at_ : Int
  e : Int
  deriving DecidableEq, Inhabited
structure Dimacs_reader where
  fault : Dimacs_fault
  rest : List Token_Token
  end_ : Int
  deriving DecidableEq, Inhabited
end Go.Proofs.YtancoeikfkebfaaDoor
