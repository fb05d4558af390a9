/- The types of the program as structures. Definitions. -/
import Derived.Test.YtlpcjbjlgeaapaaTab
set_option linter.all false
namespace Go.Proofs.Ytlpcjbjlgeaapaa
open Go
structure Numbering_Size where
  Ops : Int
  States : Int
  deriving DecidableEq, Inhabited
structure Numbering_Name where
  Kind : Int
  A : Int
  B : Int
  deriving DecidableEq, Inhabited
structure Ref31_Name where
  Kind : Int
  A : Int
  B : Int
  deriving DecidableEq, Inhabited
structure Api_Formula where
  Vars : Int
  Clauses : List (List Int)
  deriving DecidableEq, Inhabited
end Go.Proofs.Ytlpcjbjlgeaapaa
