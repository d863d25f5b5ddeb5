/-
  The walk of 'FnExactSeenNew'. No condition.
-/
import Derived.Test.YtdmdnakmjcikiaaSeenN
namespace Go.Proofs.Ytdmdnakmjcikiaa
open Go.ChangeShapes Go.WideShapes Go.ChangeAt Go.RowKit
set_option linter.unusedVariables false
theorem walkFnExactSeenNew (first : Int) (w : World) (hf : -9223372036854775808 ≤ first ∧ first ≤ 9223372036854775807) :
    Calls Try.prog 7 #[.int .i64 first] w fun e w' => e = .returned (.bool true) ∧ Below w.heap.size w w' := by
  go_enter Try.func7, Try.ntmps7
  go_wp2_with fail
  refine (sseen_new _ _).mono ?_
  rintro e w1 ⟨A1, c1, rfl, o1, b1⟩
  have O1 := Lib.hid o1; clear o1
  have S1 := Lib.hid b1.size
  go_wp2_with fail
  refine (iseen_new _ _).mono ?_
  rintro e w2 ⟨A2, c2, rfl, o2, b2'⟩
  obtain ⟨q2, z2, b2⟩ := boxed b2'
  have O2 := Lib.hid o2
  have x0 := q2.get 0 rfl
  have x1 := q2.get 1 rfl
  have Q2 := Lib.hid q2
  have O1' := Lib.hid (O1.out.below b2 (Nat.le_refl _))
  have B2 := Lib.hid (bstep b1 b2 b1.size)
  clear o2 b2' b2 b1 q2
  go_wp2_with fail
  refine (eq_seen _ _ _ _ _ _ [] _ ((O2.out.sl.alloc (Nat.le_refl _) _).more (by simp)) ((O1'.out.sl.alloc (Nat.le_refl _) _).more (by simp)) rfl (by simp)).mono ?_
  rintro e w3 ⟨rfl, b3'⟩
  obtain ⟨q3, z3, b3⟩ := boxed b3'
  have Q3 := Q2.out.below b3 Q2.out.lt
  have x0 := Q3.get 0 rfl
  have x1 := Q3.get 1 rfl
  have y0 := q3.get 0 rfl
  have y1 := q3.get 1 rfl
  have O3 := Lib.hid (O2.out.below b3 (Nat.le_refl _))
  have O1'' := Lib.hid (O1'.out.below b3 (Nat.le_refl _))
  have B3 := Lib.hid (bstep B2.out b3 B2.out.size)
  have QX := Lib.hid Q3
  have QY := Lib.hid q3
  clear b3' b3 Q3 q3
  go_wp2_with fail
  refine (mark_seen _ _ _ _ 1 _ [] _ O3.out (by omega) (by omega)).mono ?_
  rintro e w4 ⟨rfl, o4, row, g4, r4⟩
  have Q4x := Lib.hid (blk_marked QX.out O3.out (by decide) g4 r4)
  have Q4y := Lib.hid (blk_marked QY.out O3.out (by decide) g4 r4)
  have O4 := Lib.hid o4
  have O1m := Lib.hid (own_marked O1''.out O3.out g4 r4 (fun a b ha hb => by
    have h1 := (O3.out.blk a ha).1
    have h2 := (O1.out.blk b hb).2.1
    simp only [World.size_alloc] at h1
    omega))
  have B4 := Lib.hid (below_marked B3.out O3.out (by have := S1.out; simp only [World.size_alloc]; omega) g4 r4)
  have x0 := Q4x.out.get 0 rfl
  have x1 := Q4x.out.get 1 rfl
  have y0 := Q4y.out.get 0 rfl
  have y1 := Q4y.out.get 1 rfl
  clear o4 g4 r4
  go_wp2_with fail
  refine (held_seen _ _ _ _ 1 _ O4.out.sl (by omega) (by omega)).mono ?_
  rintro e w5 ⟨rfl, b5⟩
  have B5 := Lib.hid (bstep B4.out b5 B4.out.size)
  have O5 := Lib.hid (O4.out.below b5 (Nat.le_refl _))
  have O15 := Lib.hid (O1m.out.below b5 (Nat.le_refl _))
  have Q5x := Lib.hid (Q4x.out.below b5 Q4x.out.lt)
  have Q5y := Lib.hid (Q4y.out.below b5 Q4y.out.lt)
  clear b5 x0 x1 y0 y1
  go_wp2_with fail
  refine (iseen_new _ _).mono ?_
  rintro e w6 ⟨A6, c6, rfl, o6, b6⟩
  have B6 := Lib.hid (bstep B5.out b6 B5.out.size)
  have O6 := Lib.hid (O5.out.below b6 (Nat.le_refl _))
  have O16 := Lib.hid (O15.out.below b6 (Nat.le_refl _))
  have Q6x := Q5x.out.below b6 Q5x.out.lt
  have Q6y := Q5y.out.below b6 Q5y.out.lt
  have x0 := Q6x.get 0 rfl
  have x1 := Q6x.get 1 rfl
  have y0 := Q6y.get 0 rfl
  have y1 := Q6y.get 1 rfl
  have l1 := Q6x.lt
  have l2 := Q6y.lt
  have Q6X := Lib.hid Q6x
  have Q6Y := Lib.hid Q6y
  have H6 := Lib.hid o6
  clear b6 o6 Q6x Q6y
  go_wp2_with fail
  refine (eq_seen _ _ _ _ _ _ [] _ ((H6.out.sl.alloc (Nat.le_refl _) _).more (by simp)) ((O16.out.sl.alloc (Nat.le_refl _) _).more (by simp)) rfl (by simp)).mono ?_
  rintro e w7 ⟨rfl, b7'⟩
  obtain ⟨q7, z7, b7⟩ := boxed b7'
  have B7 := Lib.hid (bstep B6.out b7 B6.out.size)
  have O7 := Lib.hid (O6.out.below b7 (Nat.le_refl _))
  have Q7y := Q6Y.out.below b7 Q6Y.out.lt
  have y0 := Q7y.get 0 rfl
  have y1 := Q7y.get 1 rfl
  clear b7 b7' q7 Q7y x0 x1
  go_wp2_with fail
  refine (held_seen _ _ _ _ 1 _ O7.out.sl (by omega) (by omega)).mono ?_
  rintro e w8 ⟨rfl, b8⟩
  go_wp2
  go_ret
  exact ⟨rfl, bstep B7.out b8 B7.out.size⟩
end Go.Proofs.Ytdmdnakmjcikiaa
