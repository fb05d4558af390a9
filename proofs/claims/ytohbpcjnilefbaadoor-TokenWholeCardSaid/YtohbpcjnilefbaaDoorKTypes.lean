/- The types of the program as structures. Definitions. -/
import Derived.Test.YtohbpcjnilefbaaDoorTab
set_option linter.all false
namespace Go.Proofs.YtohbpcjnilefbaaDoor
open Go
structure Token_Token where
  Line : Int
  At : Int
  Text : List UInt8
  deriving DecidableEq, Inhabited
structure Ref05_Token where
  Line : Int
  At : Int
  Text : List UInt8
  deriving DecidableEq, Inhabited
end Go.Proofs.YtohbpcjnilefbaaDoor
