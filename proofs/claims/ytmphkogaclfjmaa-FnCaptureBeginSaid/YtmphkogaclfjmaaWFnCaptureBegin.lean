/-
  The walk of 'FnCaptureBegin'. Condition: the code is a slice of bytes.
-/
import Derived.Test.YtmphkogaclfjmaaCapR
import Derived.Test.YtmphkogaclfjmaaFrame
import Derived.Deep.RegionWith
namespace Go.Proofs.Ytmphkogaclfjmaa
open Go.ChangeShapes Go.WideShapes Go.ChangeAt Go.RowKit
set_option linter.unusedVariables false
set_option linter.unusedSimpArgs false
set_option maxHeartbeats 1600000 in
set_option maxRecDepth 100000 in
theorem walkFnCaptureBegin (A : Option Addr) (n c : Nat) (w : World) (h : Bts w A n c) :
    Calls Try.prog 16 #[.slice A n c] w fun e w' => e = .returned (.bool true) ∧ Below w.heap.size w w' := by
  have hle := h.le
  have H := Lib.hid h; clear h
  by_cases hn : 1048576 < n
  · go_enter Try.func16, Try.ntmps16
    go_wp2
    go_ret
    exact ⟨rfl, Below.refl _ _⟩
  · go_enter Try.func16, Try.ntmps16
    go_wp2_with fail
    refine (draw_cap_begin _ _ _ _ H.out).mono ?_
    rintro e w1 ⟨s, rfl, hs, b1⟩
    have s1 := b1.size
    have B1 := Lib.hid b1
    have le1 : w.heap.size ≤ w1.heap.size := by simpa using s1
    clear s1
    clear b1
    obtain ⟨l, a, hx⟩ : ∃ x n, capBegin (bl s) = (x, n) := ⟨_, _, rfl⟩
    have HX := Lib.hid hx
    obtain ⟨n1, hn1⟩ : ∃ n1, n1 = l.length := ⟨_, rfl⟩
    have HL := Lib.hid hn1.symm
    have h60 : n1 ≤ 60 := by rw [hn1]; exact (begR_len hx).1
    clear hn1 hx
    have IC := Lib.hid (fun w => (by rw [← HL.out]; exact icap_begin (by omega) HX.out w : Calls Try.prog 25 #[.string (s)] w (fun e w' => ∃ A c, e = .returned (.tuple #[.slice A n1 c, .int .i64 a]) ∧ Own w' w.heap.size 33 2 A n1 c (recs l) ∧ Below w.heap.size w w')))
    have SC := Lib.hid (fun w => (by rw [← HL.out]; exact scap_begin (by omega) HX.out w : Calls Try.prog 24 #[.string (s)] w (fun e w' => ∃ A c, e = .returned (.tuple #[.slice A n1 c, .int .i64 a]) ∧ Own w' w.heap.size 33 2 A n1 c (recs l) ∧ Below w.heap.size w w')))
    go_wp2_with fail
    refine (IC.out _).mono ?_
    rintro e w2 ⟨A2, c2, rfl, o2, b2⟩
    have s2 := b2.size
    have B2 := Lib.hid (bstep B1.out b2 B1.out.size)
    have le2 : w1.heap.size ≤ w2.heap.size := by simpa using s2
    clear s2
    have Oi_2 := Lib.hid o2
    clear b2 o2
    go_wp2_with fail
    refine (SC.out _).mono ?_
    rintro e w3 ⟨A3, c3, rfl, o3, b3⟩
    have Oi_3 := Lib.hid (Oi_2.out.below b3 (Nat.le_refl _))
    have s3 := b3.size
    have B3 := Lib.hid (bstep B2.out b3 B2.out.size)
    have le3 : w2.heap.size ≤ w3.heap.size := by simpa using s3
    clear s3
    have Os_3 := Lib.hid o3
    clear b3 o3
    by_cases ha : a = 0
    · subst ha
      go_wp2_with fail
      refine (same_recs _ _ _ _ _ l _ Oi_3.out.sl Os_3.out.sl HL.out (by omega)).mono ?_
      rintro e w4 ⟨rfl, mm4, hm⟩
      have b4 := show Below w3.heap.size w3 w4 from by rw [hm]; exact below_drewN (Below.refl _ _) mm4
      clear hm
      have Oi_4 := Lib.hid (Oi_3.out.below b4 (Nat.le_refl _))
      have Os_4 := Lib.hid (Os_3.out.below b4 (Nat.le_refl _))
      have s4 := b4.size
      have B4 := Lib.hid (bstep B3.out b4 B3.out.size)
      have le4 : w3.heap.size ≤ w4.heap.size := by simpa using s4
      clear s4
      clear b4
      go_wp2_with fail
      refine (same_recs _ _ _ _ _ l _ Oi_4.out.sl Os_4.out.sl HL.out (by omega)).mono ?_
      rintro e w5 ⟨rfl, mm5, hm⟩
      have b5 := show Below w4.heap.size w4 w5 from by rw [hm]; exact below_drewN (Below.refl _ _) mm5
      clear hm
      have Oi_5 := Lib.hid (Oi_4.out.below b5 (Nat.le_refl _))
      have Os_5 := Lib.hid (Os_4.out.below b5 (Nat.le_refl _))
      have s5 := b5.size
      have B5 := Lib.hid (bstep B4.out b5 B4.out.size)
      have le5 : w4.heap.size ≤ w5.heap.size := by simpa using s5
      clear s5
      clear b5
      go_wp2
      go_ret
      exact ⟨rfl, B5.out⟩
    · have ha1 : ((a : Int) == 0) = false := by simp; omega
      have HT := Lib.hid (begin_txts HX.out ha)
      have HP := Lib.hid (begin_same HX.out ha)
      have hb1 : (0 : Int) ≤ (a : Int) := by omega
      have hb2 : (a : Int) ≤ (s.size : Int) := by have := (begR_len HX.out).2; rw [bl_len] at this; omega
      have PC := Lib.hid (fun (A : Option Addr) (c : Nat) (w : World) hs => (by rw [← HP.out]; exact icap_put A n1 c l w hs HL.out (by omega) HT.out : Calls Try.prog 31 #[.slice A n1 c] w fun e w' => e = .returned (.string (s.extract 0 a)) ∧ Below w.heap.size w w'))
      go_wp2_with fail
      refine (same_recs _ _ _ _ _ l _ Oi_3.out.sl Os_3.out.sl HL.out (by omega)).mono ?_
      rintro e w4 ⟨rfl, mm4, hm⟩
      have b4 := show Below w3.heap.size w3 w4 from by rw [hm]; exact below_drewN (Below.refl _ _) mm4
      clear hm
      have Oi_4 := Lib.hid (Oi_3.out.below b4 (Nat.le_refl _))
      have Os_4 := Lib.hid (Os_3.out.below b4 (Nat.le_refl _))
      have s4 := b4.size
      have B4 := Lib.hid (bstep B3.out b4 B3.out.size)
      have le4 : w3.heap.size ≤ w4.heap.size := by simpa using s4
      clear s4
      clear b4
      go_wp2
      go_region_with (first | (go_at_call 31; refine (PC.out _ _ _ Oi_4.out.drew.sl).mono ?_; rintro e w9 ⟨rfl, b9⟩; have B9 := Lib.hid (bstep B4.out.drew b9 B4.out.size); clear b9))
      all_goals
        go_wp2
        go_ret
        exact ⟨rfl, B9.out⟩
end Go.Proofs.Ytmphkogaclfjmaa
