/-
  What SeenHas returns, in the program and in the reference; membership. Conditions: the list can be read.
-/
import Derived.Test.YthmbapmakihmaaaSeenP
import Derived.Test.YthmbapmakihmaaaSeenN
import Derived.Test.YthmbapmakihmaaaNum2
namespace Go.Proofs.Ythmbapmakihmaaa
open Go.ChangeShapes Go.WideShapes Go.ChangeAt Go.RowKit
set_option linter.unusedVariables false


theorem seenHas_bad {cum : Int} {zs : List Int} {tsn : Int} (h : seenOk cum zs = false ∨ okB tsn = false) : seenHas cum zs tsn = false := by
  unfold seenHas
  rcases h with h | h <;> simp [h]
theorem seenHas_ok {cum : Int} {zs : List Int} {tsn : Int} (h1 : seenOk cum zs = true) (h2 : okB tsn = true) : seenHas cum zs tsn = (decide (sdiff cum tsn ≤ 0) || hasB zs (sdiff cum tsn)) := by
  unfold seenHas
  rw [h1, h2]
  rfl
theorem iseen_valid_eq {cum : Int} {zs : List Int} {v : Bool} (hv : seenOk cum zs = v) (A : Option Addr) (n c : Nat) (w : World) (hs : Sl w w.heap.size A (ints zs)) (hn : zs.length = n) (hm : n ≤ 9223372036854775807) :
    Calls Try.prog 15 #[.agg #[.int .i64 cum, .slice A n c]] w fun e w' => e = .returned (.bool v) ∧ Below w.heap.size w w' :=
  (iseen_valid cum A n c zs w hs hn hm).mono fun _ _ ⟨he, hb⟩ => ⟨by rw [he, hv], hb⟩
end Go.Proofs.Ythmbapmakihmaaa
