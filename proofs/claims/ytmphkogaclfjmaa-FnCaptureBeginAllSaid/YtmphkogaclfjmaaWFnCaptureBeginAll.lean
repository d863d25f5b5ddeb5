/-
  The walk of 'FnCaptureBeginAll'. Condition: the code is a slice of bytes.
-/
import Derived.Test.YtmphkogaclfjmaaCapR
import Derived.Test.YtmphkogaclfjmaaFrame
namespace Go.Proofs.Ytmphkogaclfjmaa
open Go.ChangeShapes Go.WideShapes Go.ChangeAt Go.RowKit
set_option linter.unusedVariables false
set_option linter.unusedSimpArgs false
set_option maxHeartbeats 1600000 in
set_option maxRecDepth 100000 in
theorem walkFnCaptureBeginAll (A : Option Addr) (n c : Nat) (w : World) (h : Bts w A n c) :
    Calls Try.prog 14 #[.slice A n c] w fun e w' => e = .returned (.bool true) ∧ Below w.heap.size w w' := by
  have hle := h.le
  have H := Lib.hid h; clear h
  by_cases hn : 1048576 < n
  · go_enter Try.func14, Try.ntmps14
    go_wp2
    go_ret
    exact ⟨rfl, Below.refl _ _⟩
  · go_enter Try.func14, Try.ntmps14
    go_wp2_with fail
    refine (draw_cap_begin _ _ _ _ H.out).mono ?_
    rintro e w1 ⟨s, rfl, hs, b1⟩
    have s1 := b1.size
    have B1 := Lib.hid b1
    have le1 : w.heap.size ≤ w1.heap.size := by simpa using s1
    clear s1
    clear b1
    obtain ⟨l, a, hx⟩ : ∃ x n, capBegin (bl s) = (x, n) := ⟨_, _, rfl⟩
    have HX := Lib.hid hx
    obtain ⟨n1, hn1⟩ : ∃ n1, n1 = l.length := ⟨_, rfl⟩
    have HL := Lib.hid hn1.symm
    have h60 : n1 ≤ 60 := by rw [hn1]; exact (begR_len hx).1
    clear hn1 hx
    have IC := Lib.hid (fun w => (by rw [← HL.out]; exact icap_begin (by omega) HX.out w : Calls Try.prog 25 #[.string (s)] w (fun e w' => ∃ A c, e = .returned (.tuple #[.slice A n1 c, .int .i64 a]) ∧ Own w' w.heap.size 33 2 A n1 c (recs l) ∧ Below w.heap.size w w')))
    have SC := Lib.hid (fun w => (by rw [← HL.out]; exact scap_begin (by omega) HX.out w : Calls Try.prog 24 #[.string (s)] w (fun e w' => ∃ A c, e = .returned (.tuple #[.slice A n1 c, .int .i64 a]) ∧ Own w' w.heap.size 33 2 A n1 c (recs l) ∧ Below w.heap.size w w')))
    go_wp2_with fail
    refine (IC.out _).mono ?_
    rintro e w2 ⟨A2, c2, rfl, o2, b2⟩
    have s2 := b2.size
    have B2 := Lib.hid (bstep B1.out b2 B1.out.size)
    have le2 : w1.heap.size ≤ w2.heap.size := by simpa using s2
    clear s2
    have Oi_2 := Lib.hid o2
    clear b2 o2
    go_wp2_with fail
    refine (SC.out _).mono ?_
    rintro e w3 ⟨A3, c3, rfl, o3, b3⟩
    have Oi_3 := Lib.hid (Oi_2.out.below b3 (Nat.le_refl _))
    have s3 := b3.size
    have B3 := Lib.hid (bstep B2.out b3 B2.out.size)
    have le3 : w2.heap.size ≤ w3.heap.size := by simpa using s3
    clear s3
    have Os_3 := Lib.hid o3
    clear b3 o3
    go_wp2_with fail
    refine (same_recs _ _ _ _ _ l _ Oi_3.out.sl Os_3.out.sl HL.out (by omega)).mono ?_
    rintro e w4 ⟨rfl, mm4, hm⟩
    have b4 := show Below w3.heap.size w3 w4 from by rw [hm]; exact below_drewN (Below.refl _ _) mm4
    clear hm
    have Oi_4 := Lib.hid (Oi_3.out.below b4 (Nat.le_refl _))
    have Os_4 := Lib.hid (Os_3.out.below b4 (Nat.le_refl _))
    have s4 := b4.size
    have B4 := Lib.hid (bstep B3.out b4 B3.out.size)
    have le4 : w3.heap.size ≤ w4.heap.size := by simpa using s4
    clear s4
    clear b4
    rcases capGet_cases (bl s) with ⟨g1, g2, g3⟩ | ⟨g1, g3⟩
    · rw [HX.out, bl_len] at g1
      rw [HX.out] at g2 g3
      change a = s.size at g1
      change a ≠ 0 at g2
      have HG := Lib.hid g3
      have hem := ba_some (s := s) (by omega)
      have GC := Lib.hid (fun w => (by rw [← HL.out]; exact icap_get (by omega) HG.out w : Calls Try.prog 29 #[.string (s)] w (fun e w' => ∃ A c, e = .returned (.tuple #[.slice A n1 c, .bool true]) ∧ Own w' w.heap.size 33 2 A n1 c (recs l) ∧ Below w.heap.size w w')))
      clear g3
      have e1 : ((a : Int) == (s.size : Int)) = true := by simp; omega
      go_wp2_with fail
      refine (GC.out _).mono ?_
      rintro e w5 ⟨A5, c5, rfl, o5, b5⟩
      have Oi_5 := Lib.hid (Oi_4.out.below b5 (Nat.le_refl _))
      have Os_5 := Lib.hid (Os_4.out.below b5 (Nat.le_refl _))
      have s5 := b5.size
      have B5 := Lib.hid (bstep B4.out b5 B4.out.size)
      have le5 : w4.heap.size ≤ w5.heap.size := by simpa using s5
      clear s5
      have Og_5 := Lib.hid o5
      clear b5 o5
      go_wp2_with fail
      refine (same_recs _ _ _ _ _ l _ Og_5.out.sl Oi_5.out.sl HL.out (by omega)).mono ?_
      rintro e w6 ⟨rfl, mm6, hm⟩
      have b6 := show Below w5.heap.size w5 w6 from by rw [hm]; exact below_drewN (Below.refl _ _) mm6
      clear hm
      have Oi_6 := Lib.hid (Oi_5.out.below b6 (Nat.le_refl _))
      have Os_6 := Lib.hid (Os_5.out.below b6 (Nat.le_refl _))
      have Og_6 := Lib.hid (Og_5.out.below b6 (Nat.le_refl _))
      have s6 := b6.size
      have B6 := Lib.hid (bstep B5.out b6 B5.out.size)
      have le6 : w5.heap.size ≤ w6.heap.size := by simpa using s6
      clear s6
      clear b6
      go_wp2
      go_ret
      exact ⟨rfl, B6.out⟩
    · rw [HX.out, bl_len] at g1
      have HG := Lib.hid g3
      have g1' : ¬ (a = s.size ∧ a ≠ 0) := g1
      have GC := Lib.hid (fun w => (icap_get (by omega) HG.out w : Calls Try.prog 29 #[.string s] w (fun e w' => ∃ A c, e = .returned (.tuple #[.slice A 0 c, .bool false]) ∧ Own w' w.heap.size 33 2 A 0 c (recs []) ∧ Below w.heap.size w w')))
      clear g3 g1
      by_cases hz : s.size = 0
      · have hem := ba_none hz
        have ha0 : a = 0 := by have := (begR_len HX.out).2; rw [bl_len] at this; omega
        have hz2 : (s.size : Int) = 0 := by omega
        have hz3 : (a : Int) = 0 := by omega
        clear g1'
        go_wp2_with fail
        refine (GC.out _).mono ?_
        rintro e w5 ⟨A5, c5, rfl, o5, b5⟩
        have Oi_5 := Lib.hid (Oi_4.out.below b5 (Nat.le_refl _))
        have Os_5 := Lib.hid (Os_4.out.below b5 (Nat.le_refl _))
        have s5 := b5.size
        have B5 := Lib.hid (bstep B4.out b5 B4.out.size)
        have le5 : w4.heap.size ≤ w5.heap.size := by simpa using s5
        clear s5
        have Og_5 := Lib.hid o5
        clear b5 o5
        go_wp2
        go_ret
        first | exact ⟨rfl, B5.out⟩ | exact ⟨ret_bool (by simp [hem]), B5.out⟩
      · have hne : a ≠ s.size := by omega
        have hne2 : ((a : Int) == (s.size : Int)) = false := by simp; omega
        go_wp2_with fail
        refine (GC.out _).mono ?_
        rintro e w5 ⟨A5, c5, rfl, o5, b5⟩
        have Oi_5 := Lib.hid (Oi_4.out.below b5 (Nat.le_refl _))
        have Os_5 := Lib.hid (Os_4.out.below b5 (Nat.le_refl _))
        have s5 := b5.size
        have B5 := Lib.hid (bstep B4.out b5 B4.out.size)
        have le5 : w4.heap.size ≤ w5.heap.size := by simpa using s5
        clear s5
        have Og_5 := Lib.hid o5
        clear b5 o5
        go_wp2
        go_ret
        first | exact ⟨rfl, B5.out⟩ | exact ⟨ret_bool (by simp [hne2]), B5.out⟩
end Go.Proofs.Ytmphkogaclfjmaa
