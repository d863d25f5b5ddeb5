/-
  What the head of the translation says, word by word: so that the closed facts on it are cheap. No condition.
-/
import Derived.Test.YthmbapmakihmaaaRows
import Derived.WalkKit
import Derived.ProofKit
import Derived.JoinedOf
namespace Go.Proofs.Ythmbapmakihmaaa

def headNums : List Nat := [104, 97, 114, 110, 101, 115, 115, 32, 52, 100, 100, 102, 53, 56, 55, 50, 49, 53, 55, 53, 100, 101, 52, 100, 99, 102, 100, 100, 55, 48, 56, 48, 49, 52, 98, 48, 48, 49, 55, 49, 97, 55, 48, 102, 100, 99, 52, 50, 102, 51, 53, 99, 50, 49, 56, 55, 50, 100, 97, 101, 55, 55, 57, 101, 57, 56, 49, 100, 49, 98, 97, 97, 32, 99, 117, 116, 32, 97, 116, 32, 108, 111, 111, 112, 46, 101, 120, 97, 109, 112, 108, 101, 47, 99, 97, 112, 116, 117, 114, 101, 109, 111, 110, 105, 116, 111, 114, 47, 108, 97, 119, 115, 46, 70, 110, 83, 97, 99, 107, 83, 101, 101, 110]
def headWords : List (List Char) := List.map (List.map Char.ofNat) [[104, 97, 114, 110, 101, 115, 115], [52, 100, 100, 102, 53, 56, 55, 50, 49, 53, 55, 53, 100, 101, 52, 100, 99, 102, 100, 100, 55, 48, 56, 48, 49, 52, 98, 48, 48, 49, 55, 49, 97, 55, 48, 102, 100, 99, 52, 50, 102, 51, 53, 99, 50, 49, 56, 55, 50, 100, 97, 101, 55, 55, 57, 101, 57, 56, 49, 100, 49, 98, 97, 97], [99, 117, 116], [97, 116], [108, 111, 111, 112, 46, 101, 120, 97, 109, 112, 108, 101, 47, 99, 97, 112, 116, 117, 114, 101, 109, 111, 110, 105, 116, 111, 114, 47, 108, 97, 119, 115, 46, 70, 110, 83, 97, 99, 107, 83, 101, 101, 110]]
theorem head_eq : Try.prog.initOrder = String.ofList (List.map Char.ofNat headNums) := by kernel_rfl
theorem words_eq : wordsSigns Try.prog.initOrder.toList = headWords := by
  rw [head_eq, String.toList_ofList]
  kernel_rfl
theorem may_enter_gen (P : Program) (h : wordsSigns P.initOrder.toList = headWords) (hP : Try.prog = P) : P.mayEnter = true := by
  unfold Program.mayEnter
  rw [h]
  subst hP
  show _ = _
  kernel_rfl
theorem may_enter : Try.prog.mayEnter = true := may_enter_gen _ words_eq rfl
theorem lifts_final_gen (P : Program) (h : wordsSigns P.initOrder.toList = headWords) (hP : Try.prog = P) : P.liftsFinal = false := by
  unfold Program.liftsFinal Program.headLifts
  rw [h]
  subst hP
  show _ = _
  kernel_rfl
theorem lifts_final : Try.prog.liftsFinal = false := lifts_final_gen _ words_eq rfl
theorem make_cut_gen (P : Program) (h : wordsSigns P.initOrder.toList = headWords) (hP : Try.prog = P) : P.make = some .cut := by
  unfold Program.make
  rw [h]
  subst hP
  show _ = _
  kernel_rfl
theorem make_cut : Try.prog.make = some .cut := make_cut_gen _ words_eq rfl
end Go.Proofs.Ythmbapmakihmaaa
