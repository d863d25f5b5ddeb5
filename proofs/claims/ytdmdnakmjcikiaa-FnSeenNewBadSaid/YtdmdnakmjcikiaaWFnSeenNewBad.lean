/-
  The walk of 'FnSeenNewBad'. Condition: the code is a slice of bytes.
-/
import Derived.Test.YtdmdnakmjcikiaaSeenN
import Derived.Test.YtdmdnakmjcikiaaDraw
namespace Go.Proofs.Ytdmdnakmjcikiaa
open Go.ChangeShapes Go.WideShapes Go.ChangeAt Go.RowKit
set_option linter.unusedVariables false
theorem okB_sadd (first : Int) : okB first = decide (0 ≤ sadd first 0) := by
  by_cases h : okB first = true
  · have h1 := sadd_range first 0 h
    rw [h]
    simp [h1.1]
  · have h : okB first = false := by simpa using h
    have e : sadd first 0 = -1 := if_neg (by simp [h])
    rw [h, e]
    rfl
theorem walkFnSeenNewBad (A : Option Addr) (n c : Nat) (w : World) (h : Bts w A n c) :
    Calls Try.prog 8 #[.slice A n c] w fun e w' => e = .returned (.bool true) ∧ Below w.heap.size w w' := by
  have hle := h.le
  have H := Lib.hid h; clear h
  by_cases hn : 1048576 < n
  · go_enter Try.func8, Try.ntmps8
    go_wp2
    go_ret
    exact ⟨rfl, Below.refl _ _⟩
  · go_enter Try.func8, Try.ntmps8
    go_wp2_with fail
    refine (draw_seen_new _ _ _ _ H.out).mono ?_
    rintro e w1 ⟨r, rfl, r1, r2, b1⟩
    go_wp2_with fail
    refine (iseen_new _ _).mono ?_
    rintro e w2 ⟨A2, c2, rfl, o2, b2⟩
    have O2 := Lib.hid o2; clear o2
    go_wp2_with fail
    refine (sseen_new _ _).mono ?_
    rintro e w3 ⟨A3, c3, rfl, o3, b3'⟩
    obtain ⟨q3, z3, b3⟩ := boxed b3'
    have x0 := q3.get 0 rfl
    have x1 := q3.get 1 rfl
    have O3 := Lib.hid o3
    have O2' := Lib.hid (O2.out.below b3 (Nat.le_refl _))
    have B3 := Lib.hid (bstep b1 (bstep b2 b3 b2.size) b1.size)
    clear b1 b2 b3 b3' q3 o3
    go_wp2_with fail
    refine (same_seen _ _ _ _ _ _ [] _ ((O2'.out.sl.alloc (Nat.le_refl _) _).more (by simp)) ((O3.out.sl.alloc (Nat.le_refl _) _).more (by simp)) rfl (by simp)).mono ?_
    rintro e w4 ⟨rfl, b4⟩
    go_wp2_with fail
    refine (iadd_any _ _ _).mono ?_
    rintro e w' ⟨rfl, rfl⟩
    go_wp2
    go_ret
    exact ⟨ret_bool (by rw [okB_sadd]; simp), bstep B3.out (bstep ((Below.refl _ w3).alloc (Nat.le_refl _) _) b4 (by simp)) B3.out.size⟩
end Go.Proofs.Ytdmdnakmjcikiaa
