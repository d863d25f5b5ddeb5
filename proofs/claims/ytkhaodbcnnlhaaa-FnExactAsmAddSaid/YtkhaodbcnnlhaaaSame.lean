/-
  The laws' comparisons of lists, where both lists are equal: each returns true. Conditions: those that each theorem bears.
-/
import Derived.Test.YtkhaodbcnnlhaaaRows
import Derived.Test.YtkhaodbcnnlhaaaBase
import Derived.Test.YtkhaodbcnnlhaaaNum
import Derived.Test.YtkhaodbcnnlhaaaOwn
namespace Go.Proofs.Ytkhaodbcnnlhaaa
open Go.ChangeShapes Go.WideShapes Go.ChangeAt Go.RowKit
set_option linter.unusedVariables false

def Quiet (v : Value) (w : World) (e : Ending) (w' : World) : Prop := e = .returned v ∧ ∃ m, w' = w.drewN m
end Go.Proofs.Ytkhaodbcnnlhaaa
