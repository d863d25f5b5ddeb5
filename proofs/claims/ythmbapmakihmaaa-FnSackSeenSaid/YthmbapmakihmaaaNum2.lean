/-
  More of serial numbers: differences, order, ranges. Conditions: those that each theorem bears.
-/
import Derived.Test.YthmbapmakihmaaaNum
namespace Go.Proofs.Ythmbapmakihmaaa
open Go.ChangeShapes Go.WideShapes Go.ChangeAt Go.RowKit
set_option linter.unusedVariables false

theorem sdiff_add (a b : Int) (ha : okB a = true) (hb : okB b = true) : sadd b (-a) = (b - a) % 65536 := by
  rw [sadd_of b _ hb, Int.sub_eq_add_neg]
end Go.Proofs.Ythmbapmakihmaaa
