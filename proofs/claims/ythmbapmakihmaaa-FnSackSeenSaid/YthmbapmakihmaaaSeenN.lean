/-
  What SeenNew returns, in the program and in the reference. No condition.
-/
import Derived.Test.YthmbapmakihmaaaSeenE
namespace Go.Proofs.Ythmbapmakihmaaa
open Go.ChangeShapes Go.WideShapes Go.ChangeAt Go.RowKit
set_option linter.unusedVariables false

def snCum (first : Int) : Int := if okB first then sadd first (-1) else 0
def SeenTwo (cum : Int) (zs : List Int) (n : Nat) (v : Value) (w : World) (e : Ending) (w' : World) : Prop :=
  ∃ A c, e = .returned (.tuple #[.agg #[.int .i64 cum, .slice A n c], v]) ∧ Own w' w.heap.size 3 1 A n c (ints zs) ∧ Below w.heap.size w w'
theorem same_seen (cum : Int) (A B : Option Addr) (n c d : Nat) (zs : List Int) (w : World) (hA : Sl w w.heap.size A (ints zs)) (hB : Sl w w.heap.size B (ints zs)) (hn : zs.length = n) (hm : n ≤ 9223372036854775807) :
    Calls Try.prog 7 #[.agg #[.int .i64 cum, .slice A n c], .agg #[.int .i64 cum, .slice B n d]] w fun e w' => e = .returned (.bool true) ∧ Below w.heap.size w w' := by
  have HA := Lib.hid hA; have HB := Lib.hid hB; have HN := Lib.hid hn; clear hA hB hn
  go_enter Try.func7, Try.ntmps7
  go_wp2_with fail
  refine (same_ints _ _ _ _ _ zs _ (((HA.out.alloc (Nat.le_refl _) _).alloc (by simp) _).more (by simp; omega)) (((HB.out.alloc (Nat.le_refl _) _).alloc (by simp) _).more (by simp; omega)) HN.out hm).mono ?_
  rintro e w1 ⟨rfl, m, rfl⟩
  go_wp2
  go_ret
  exact ⟨rfl, below_drewN (((Below.refl _ w).alloc (Nat.le_refl _) _).alloc (by simp) _) _⟩
end Go.Proofs.Ythmbapmakihmaaa
