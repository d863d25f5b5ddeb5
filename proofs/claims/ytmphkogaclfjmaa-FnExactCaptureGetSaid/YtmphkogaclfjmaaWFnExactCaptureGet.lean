/-
  The walk of 'FnExactCaptureGet'. No condition.
-/
import Derived.Test.YtmphkogaclfjmaaCapG
import Derived.Test.YtmphkogaclfjmaaCapM
import Derived.Test.YtmphkogaclfjmaaFrame
namespace Go.Proofs.Ytmphkogaclfjmaa
open Go.ChangeShapes Go.WideShapes Go.ChangeAt Go.RowKit
set_option linter.unusedVariables false
set_option linter.unusedSimpArgs false
set_option maxHeartbeats 1600000 in
theorem walkFnExactCaptureGet (s : ByteArray) (w : World) (hs : s.size ≤ 9223372036854775807) :
    Calls Try.prog 7 #[.string s] w fun e w' => e = .returned (.bool true) ∧ Below w.heap.size w w' := by
  by_cases hbig : 1048576 < s.size
  · have hb' : (1048576 : Int) < (s.size : Int) := by omega
    go_enter Try.func7, Try.ntmps7
    go_wp2
    go_ret
    exact ⟨rfl, Below.refl _ _⟩
  obtain ⟨l, ok, hx⟩ : ∃ x n, capGet (bl s) = (x, n) := ⟨_, _, rfl⟩
  have HX := Lib.hid hx
  have hlen0 := Lib.hid (get_len hx)
  clear hx
  have hlen : l.length ≤ 60 := hlen0.out
  obtain ⟨n, hn⟩ : ∃ n, n = l.length := ⟨_, rfl⟩
  have HN := Lib.hid hn.symm
  have hn60 : n ≤ 60 := by omega
  clear hlen hlen0
  have SC := Lib.hid (fun w => (by rw [hn]; exact scap_get (by omega) HX.out w : Calls Try.prog 28 #[.string s] w (fun e w' => ∃ A c, e = .returned (.tuple #[.slice A n c, .bool ok]) ∧ Own w' w.heap.size 33 2 A n c (recs l) ∧ Below w.heap.size w w')))
  have IC := Lib.hid (fun w => (by rw [hn]; exact icap_get (by omega) HX.out w : Calls Try.prog 29 #[.string s] w (fun e w' => ∃ A c, e = .returned (.tuple #[.slice A n c, .bool ok]) ∧ Own w' w.heap.size 33 2 A n c (recs l) ∧ Below w.heap.size w w')))
  have hb' : ¬ (1048576 : Int) < (s.size : Int) := by omega
  clear hn HX
  go_enter Try.func7, Try.ntmps7
  go_wp2_with fail
  refine (SC.out _).mono ?_
  rintro e w1 ⟨A1, c1, rfl, o1, b1⟩
  have s1 := b1.size
  have B1 := Lib.hid b1
  have le1 : w.heap.size ≤ w1.heap.size := by simpa using s1
  clear s1
  have Ow_1 := Lib.hid o1
  clear b1 o1
  go_wp2_with fail
  refine (IC.out _).mono ?_
  rintro e w2 ⟨A2, c2, rfl, o2, b2⟩
  have Ow_2 := Lib.hid (Ow_1.out.below b2 (Nat.le_refl _))
  have s2 := b2.size
  have B2 := Lib.hid (bstep B1.out b2 B1.out.size)
  have le2 : w1.heap.size ≤ w2.heap.size := by simpa using s2
  clear s2
  have Og_2 := Lib.hid o2
  clear b2 o2
  go_wp2_with fail
  refine (eq_recs _ _ _ _ _ l _ Og_2.out.sl Ow_2.out.sl HN.out (by omega)).mono ?_
  rintro e w3 ⟨rfl, b3⟩
  have Ow_3 := Lib.hid (Ow_2.out.below b3 (Nat.le_refl _))
  have Og_3 := Lib.hid (Og_2.out.below b3 (Nat.le_refl _))
  have s3 := b3.size
  have B3 := Lib.hid (bstep B2.out b3 B2.out.size)
  have le3 : w2.heap.size ≤ w3.heap.size := by simpa using s3
  clear s3
  clear b3
  go_wp2_with fail
  refine (mark_recs _ _ _ 1 _ l _ Og_3.out (by omega) (by omega)).mono ?_
  rintro e w4 ⟨rfl, o4, row4, g4, r4⟩
  have Ow_4 := Lib.hid (own_marked Ow_3.out Og_3.out g4 r4 (fun a b ha hb => by
    have p1 := Og_2.out.blk a ha
    have p2 := Ow_1.out.blk b hb
    try simp only [World.size_alloc, World.size_drew] at p1 p2
    omega))
  have Og_4 := Lib.hid o4
  have le4 : w3.heap.size ≤ w4.heap.size := g4.size
  have B4 := Lib.hid (below_marked B3.out Og_3.out (by (try simp only [World.size_alloc, World.size_drew]); omega) g4 r4)
  clear o4 g4 r4
  go_wp2_with fail
  refine (held_recs _ _ _ 1 _ Og_4.out.sl (by omega) (by omega)).mono ?_
  rintro e w5 ⟨rfl, b5⟩
  have Ow_5 := Lib.hid (Ow_4.out.below b5 (Nat.le_refl _))
  have Og_5 := Lib.hid (Og_4.out.below b5 (Nat.le_refl _))
  have s5 := b5.size
  have B5 := Lib.hid (bstep B4.out b5 B4.out.size)
  have le5 : w4.heap.size ≤ w5.heap.size := by simpa using s5
  clear s5
  clear b5
  go_wp2_with fail
  refine (IC.out _).mono ?_
  rintro e w6 ⟨A6, c6, rfl, o6, b6⟩
  have Ow_6 := Lib.hid (Ow_5.out.below b6 (Nat.le_refl _))
  have Og_6 := Lib.hid (Og_5.out.below b6 (Nat.le_refl _))
  have s6 := b6.size
  have B6 := Lib.hid (bstep B5.out b6 B5.out.size)
  have le6 : w5.heap.size ≤ w6.heap.size := by simpa using s6
  clear s6
  have Oh_6 := Lib.hid o6
  clear b6 o6
  go_wp2_with fail
  refine (eq_recs _ _ _ _ _ l _ Oh_6.out.sl Ow_6.out.sl HN.out (by omega)).mono ?_
  rintro e w7 ⟨rfl, b7⟩
  have Ow_7 := Lib.hid (Ow_6.out.below b7 (Nat.le_refl _))
  have Og_7 := Lib.hid (Og_6.out.below b7 (Nat.le_refl _))
  have Oh_7 := Lib.hid (Oh_6.out.below b7 (Nat.le_refl _))
  have s7 := b7.size
  have B7 := Lib.hid (bstep B6.out b7 B6.out.size)
  have le7 : w6.heap.size ≤ w7.heap.size := by simpa using s7
  clear s7
  clear b7
  go_wp2_with fail
  refine (held_recs _ _ _ 1 _ Og_7.out.sl (by omega) (by omega)).mono ?_
  rintro e w8 ⟨rfl, b8⟩
  have Ow_8 := Lib.hid (Ow_7.out.below b8 (Nat.le_refl _))
  have Og_8 := Lib.hid (Og_7.out.below b8 (Nat.le_refl _))
  have Oh_8 := Lib.hid (Oh_7.out.below b8 (Nat.le_refl _))
  have s8 := b8.size
  have B8 := Lib.hid (bstep B7.out b8 B7.out.size)
  have le8 : w7.heap.size ≤ w8.heap.size := by simpa using s8
  clear s8
  clear b8
  go_wp2
  go_ret
  exact ⟨rfl, B8.out⟩
end Go.Proofs.Ytmphkogaclfjmaa
