/-
  What SeenValid returns, in the program and in the reference. Condition: the list can be read.
-/
import Derived.Test.YtkhaodbcnnlhaaaNum
import Derived.Test.YtkhaodbcnnlhaaaOwn
namespace Go.Proofs.Ytkhaodbcnnlhaaa
open Go.ChangeShapes Go.WideShapes Go.ChangeAt Go.RowKit
set_option linter.unusedVariables false

def ints (zs : List Int) : List Value := zs.map (Value.int .i64)
theorem ints_len (zs : List Int) : (ints zs).length = zs.length := by simp [ints]
theorem ints_get {zs : List Int} {k : Nat} (h : k < zs.length) : (ints zs)[k]? = some (.int .i64 zs[k]) := by unfold ints; rw [List.getElem?_map, List.getElem?_eq_getElem h]; rfl
def asc : Int → List Int → Bool
  | _, [] => true
  | low, z :: r => inB z low 16 && asc (z + 1) r
def seenOk (cum : Int) (zs : List Int) : Bool := asc 2 zs && okB cum
theorem asc_drop {zs : List Int} {k : Nat} (h : k < zs.length) (low : Int) : asc low (zs.drop k) = (inB zs[k] low 16 && asc (zs[k] + 1) (zs.drop (k + 1))) := by
  rw [List.drop_eq_getElem_cons h]; rfl
theorem asc_end {zs : List Int} {k : Nat} (h : ¬ k < zs.length) (low : Int) : asc low (zs.drop k) = true := by
  rw [List.drop_of_length_le (by omega)]; rfl

end Go.Proofs.Ytkhaodbcnnlhaaa
