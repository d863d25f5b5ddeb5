/-
  What the head of the translation says, word by word: so that the closed facts on it are cheap. No condition.
-/
import Derived.Test.YtkhaodbcnnlhaaaRows
import Derived.WalkKit
import Derived.ProofKit
import Derived.JoinedOf
namespace Go.Proofs.Ytkhaodbcnnlhaaa

def headNums : List Nat := [104, 97, 114, 110, 101, 115, 115, 32, 48, 97, 98, 52, 53, 100, 53, 100, 101, 99, 54, 52, 55, 99, 98, 56, 101, 50, 57, 49, 56, 50, 52, 101, 54, 56, 51, 97, 50, 50, 51, 102, 50, 99, 101, 50, 54, 57, 101, 100, 100, 100, 51, 52, 53, 54, 97, 102, 54, 53, 99, 50, 53, 56, 99, 52, 56, 99, 57, 54, 49, 51, 49, 54, 32, 99, 117, 116, 32, 97, 116, 32, 108, 111, 111, 112, 46, 101, 120, 97, 109, 112, 108, 101, 47, 99, 97, 112, 116, 117, 114, 101, 109, 111, 110, 105, 116, 111, 114, 47, 108, 97, 119, 115, 46, 70, 110, 69, 120, 97, 99, 116, 65, 115, 109, 82, 117, 110, 32, 108, 111, 111, 112, 46, 101, 120, 97, 109, 112, 108, 101, 47, 99, 97, 112, 116, 117, 114, 101, 109, 111, 110, 105, 116, 111, 114, 47, 108, 97, 119, 115, 46, 70, 110, 69, 120, 97, 99, 116, 65, 115, 109, 65, 100, 100, 32, 108, 111, 111, 112, 46, 101, 120, 97, 109, 112, 108, 101, 47, 99, 97, 112, 116, 117, 114, 101, 109, 111, 110, 105, 116, 111, 114, 47, 108, 97, 119, 115, 46, 70, 110, 69, 120, 97, 99, 116, 83, 105, 100, 101, 75, 110, 111, 119, 110]
def headWords : List (List Char) := List.map (List.map Char.ofNat) [[104, 97, 114, 110, 101, 115, 115], [48, 97, 98, 52, 53, 100, 53, 100, 101, 99, 54, 52, 55, 99, 98, 56, 101, 50, 57, 49, 56, 50, 52, 101, 54, 56, 51, 97, 50, 50, 51, 102, 50, 99, 101, 50, 54, 57, 101, 100, 100, 100, 51, 52, 53, 54, 97, 102, 54, 53, 99, 50, 53, 56, 99, 52, 56, 99, 57, 54, 49, 51, 49, 54], [99, 117, 116], [97, 116], [108, 111, 111, 112, 46, 101, 120, 97, 109, 112, 108, 101, 47, 99, 97, 112, 116, 117, 114, 101, 109, 111, 110, 105, 116, 111, 114, 47, 108, 97, 119, 115, 46, 70, 110, 69, 120, 97, 99, 116, 65, 115, 109, 82, 117, 110], [108, 111, 111, 112, 46, 101, 120, 97, 109, 112, 108, 101, 47, 99, 97, 112, 116, 117, 114, 101, 109, 111, 110, 105, 116, 111, 114, 47, 108, 97, 119, 115, 46, 70, 110, 69, 120, 97, 99, 116, 65, 115, 109, 65, 100, 100], [108, 111, 111, 112, 46, 101, 120, 97, 109, 112, 108, 101, 47, 99, 97, 112, 116, 117, 114, 101, 109, 111, 110, 105, 116, 111, 114, 47, 108, 97, 119, 115, 46, 70, 110, 69, 120, 97, 99, 116, 83, 105, 100, 101, 75, 110, 111, 119, 110]]
theorem head_eq : Try.prog.initOrder = String.ofList (List.map Char.ofNat headNums) := by kernel_rfl
theorem words_eq : wordsSigns Try.prog.initOrder.toList = headWords := by
  rw [head_eq, String.toList_ofList]
  kernel_rfl
theorem may_enter_gen (P : Program) (h : wordsSigns P.initOrder.toList = headWords) (hP : Try.prog = P) : P.mayEnter = true := by
  unfold Program.mayEnter
  rw [h]
  subst hP
  show _ = _
  kernel_rfl
theorem may_enter : Try.prog.mayEnter = true := may_enter_gen _ words_eq rfl
theorem lifts_final_gen (P : Program) (h : wordsSigns P.initOrder.toList = headWords) (hP : Try.prog = P) : P.liftsFinal = false := by
  unfold Program.liftsFinal Program.headLifts
  rw [h]
  subst hP
  show _ = _
  kernel_rfl
theorem lifts_final : Try.prog.liftsFinal = false := lifts_final_gen _ words_eq rfl
theorem make_cut_gen (P : Program) (h : wordsSigns P.initOrder.toList = headWords) (hP : Try.prog = P) : P.make = some .cut := by
  unfold Program.make
  rw [h]
  subst hP
  show _ = _
  kernel_rfl
theorem make_cut : Try.prog.make = some .cut := make_cut_gen _ words_eq rfl
end Go.Proofs.Ytkhaodbcnnlhaaa
