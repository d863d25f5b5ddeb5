/-
  What the laws' helpers on captures return: sizes, copies, comparisons. Conditions: those that each theorem bears.
-/
import Derived.Test.YtlemdagiamnphaaCapV
import Derived.Test.YtlemdagiamnphaaAppend
namespace Go.Proofs.Ytlemdagiamnphaa
open Go.ChangeShapes Go.WideShapes Go.ChangeAt Go.RowKit
set_option linter.unusedVariables false

/-- Too much, or what is left: then the list is not too long. -/
def SzP (n : Nat) (w : World) (e : Ending) (w' : World) : Prop := ∃ m : Int, e = .returned (.int .i64 m) ∧ (m = -1 ∨ (0 ≤ m ∧ m ≤ 1048576 ∧ n ≤ 1048576)) ∧ Below w.heap.size w w'
def QuietR (v : Value) (w : World) (e : Ending) (w' : World) : Prop := e = .returned v ∧ ∃ m, w' = w.drewN m
end Go.Proofs.Ytlemdagiamnphaa
