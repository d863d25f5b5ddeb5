/-
  The walk of 'FnCaptureWord'. Condition: the code is a slice of bytes.
-/
import Derived.Test.YtmphkogaclfjmaaCapR
import Derived.Test.YtmphkogaclfjmaaFrame
namespace Go.Proofs.Ytmphkogaclfjmaa
open Go.ChangeShapes Go.WideShapes Go.ChangeAt Go.RowKit
set_option linter.unusedVariables false
set_option linter.unusedSimpArgs false
set_option maxHeartbeats 1600000 in
set_option maxRecDepth 100000 in
theorem walkFnCaptureWord (A : Option Addr) (n c : Nat) (w : World) (h : Bts w A n c) :
    Calls Try.prog 12 #[.slice A n c] w fun e w' => e = .returned (.bool true) ∧ Below w.heap.size w w' := by
  have hle := h.le
  have H := Lib.hid h; clear h
  by_cases hn : 1048576 < n
  · go_enter Try.func12, Try.ntmps12
    go_wp2
    go_ret
    exact ⟨rfl, Below.refl _ _⟩
  · go_enter Try.func12, Try.ntmps12
    go_wp2_with fail
    refine (draw_cap_begin _ _ _ _ H.out).mono ?_
    rintro e w1 ⟨s, rfl, hs, b1⟩
    have s1 := b1.size
    have B1 := Lib.hid b1
    have le1 : w.heap.size ≤ w1.heap.size := by simpa using s1
    clear s1
    clear b1
    obtain ⟨l, a, hx⟩ : ∃ x n, capBegin (bl s) = (x, n) := ⟨_, _, rfl⟩
    have HX := Lib.hid hx
    obtain ⟨n1, hn1⟩ : ∃ n1, n1 = l.length := ⟨_, rfl⟩
    have HL := Lib.hid hn1.symm
    have h60 : n1 ≤ 60 := by rw [hn1]; exact (begR_len hx).1
    clear hn1 hx
    have IC := Lib.hid (fun w => (by rw [← HL.out]; exact icap_begin (by omega) HX.out w : Calls Try.prog 25 #[.string (s)] w (fun e w' => ∃ A c, e = .returned (.tuple #[.slice A n1 c, .int .i64 a]) ∧ Own w' w.heap.size 33 2 A n1 c (recs l) ∧ Below w.heap.size w w')))
    have SC := Lib.hid (fun w => (by rw [← HL.out]; exact scap_begin (by omega) HX.out w : Calls Try.prog 24 #[.string (s)] w (fun e w' => ∃ A c, e = .returned (.tuple #[.slice A n1 c, .int .i64 a]) ∧ Own w' w.heap.size 33 2 A n1 c (recs l) ∧ Below w.heap.size w w')))
    go_wp2_with fail
    refine (IC.out _).mono ?_
    rintro e w2 ⟨A2, c2, rfl, o2, b2⟩
    have s2 := b2.size
    have B2 := Lib.hid (bstep B1.out b2 B1.out.size)
    have le2 : w1.heap.size ≤ w2.heap.size := by simpa using s2
    clear s2
    have Oi_2 := Lib.hid o2
    clear b2 o2
    go_wp2_with fail
    refine (SC.out _).mono ?_
    rintro e w3 ⟨A3, c3, rfl, o3, b3⟩
    have Oi_3 := Lib.hid (Oi_2.out.below b3 (Nat.le_refl _))
    have s3 := b3.size
    have B3 := Lib.hid (bstep B2.out b3 B2.out.size)
    have le3 : w2.heap.size ≤ w3.heap.size := by simpa using s3
    clear s3
    have Os_3 := Lib.hid o3
    clear b3 o3
    go_wp2_with fail
    refine (same_recs _ _ _ _ _ l _ Oi_3.out.sl Os_3.out.sl HL.out (by omega)).mono ?_
    rintro e w4 ⟨rfl, mm4, hm⟩
    have b4 := show Below w3.heap.size w3 w4 from by rw [hm]; exact below_drewN (Below.refl _ _) mm4
    clear hm
    have Oi_4 := Lib.hid (Oi_3.out.below b4 (Nat.le_refl _))
    have Os_4 := Lib.hid (Os_3.out.below b4 (Nat.le_refl _))
    have s4 := b4.size
    have B4 := Lib.hid (bstep B3.out b4 B3.out.size)
    have le4 : w3.heap.size ≤ w4.heap.size := by simpa using s4
    clear s4
    clear b4
    have hw := begin_word (bl s)
    rw [HX.out] at hw
    obtain ⟨hw1, hw2⟩ := hw
    change a = 0 ↔ _ at hw1
    change a = 0 → l = [] at hw2
    by_cases h4 : s.size < 4
    · have ha : a = 0 := hw1.2 (short_no h4)
      have hl0 := hw2 ha
      have hn0 : n1 = 0 := by rw [← HL.out, hl0]; rfl
      subst ha hn0
      clear hw1 hw2 hl0
      go_wp2
      go_ret
      first | exact ⟨rfl, B4.out⟩ | exact ⟨ret_bool (by simp; omega), B4.out⟩
    · have hx4 : (0 : Int) ≤ 4 ∧ (4 : Int) ≤ (s.size : Int) := by omega
      have hcmp := tap_cmp (s := s) (by omega)
      by_cases ht : (bl s).take 4 = tap
      · rw [decide_eq_true ht] at hcmp
        have ha : a ≠ 0 := fun e => hw1.1 e ht
        have ha1 : ((a : Int) == 0) = false := by simp; omega
        have ha2 : (0 : Int) < (a : Int) := by omega
        clear hw1 hw2 ht
        go_wp2
        go_ret
        first | exact ⟨rfl, B4.out⟩ | exact ⟨ret_bool (by simp [ha1, hcmp] <;> omega), B4.out⟩
      · rw [decide_eq_false ht] at hcmp
        have ha : a = 0 := hw1.2 ht
        have hl0 := hw2 ha
        have hn0 : n1 = 0 := by rw [← HL.out, hl0]; rfl
        subst ha hn0
        clear hw1 hw2 hl0 ht
        go_wp2
        go_ret
        first | exact ⟨rfl, B4.out⟩ | exact ⟨ret_bool (by simp [hcmp] <;> omega), B4.out⟩
end Go.Proofs.Ytmphkogaclfjmaa
