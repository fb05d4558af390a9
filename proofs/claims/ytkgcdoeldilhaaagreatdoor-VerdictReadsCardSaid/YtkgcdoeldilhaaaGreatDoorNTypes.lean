/- The types of the program as structures. Definitions. -/
import Derived.Test.YtkgcdoeldilhaaaGreatDoorTab
set_option linter.all false
namespace Go.Proofs.YtkgcdoeldilhaaaGreatDoor
open Go
structure Token_Token where
  Line : Int
  At : Int
  Text : List UInt8
  deriving DecidableEq, Inhabited
structure Ref05_Token where
  Line : Int
  At : Int
  Text : List UInt8
  deriving DecidableEq, Inhabited
structure Proof_line where
  rest : List Token_Token
  at_ : Int
  e : Int
  deriving DecidableEq, Inhabited
structure Api_Step where
  Kind : Int
  Id : Int
  Lits : List Int
  Hints : List Int
  deriving DecidableEq, Inhabited
structure Ref10_Row where
  L : List Int
  Taken : Int
  At : Int
  E : Int
  deriving DecidableEq, Inhabited
structure Api_Pick where
  Oper : Int
  Result : Int
  deriving DecidableEq, Inhabited
structure Api_Verdict where
  Kind : Int
  At : Int
  Err : Int
  Picks : List Api_Pick
  Proof : List Api_Step
  deriving DecidableEq, Inhabited
structure Verdict_reader where
  rest : List (List Token_Token)
  end_ : Int
  at_ : Int
  e : Int
  deriving DecidableEq, Inhabited
end Go.Proofs.YtkgcdoeldilhaaaGreatDoor
