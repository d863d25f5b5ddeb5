/-
  The walk of 'FnCapturePutBad'. Condition: each code is a slice of bytes.
-/
import Derived.Test.YtmphkogaclfjmaaCapQ
import Derived.Test.YtmphkogaclfjmaaFrame
namespace Go.Proofs.Ytmphkogaclfjmaa
open Go.ChangeShapes Go.WideShapes Go.ChangeAt Go.RowKit
set_option linter.unusedVariables false
set_option linter.unusedSimpArgs false
set_option maxHeartbeats 1600000 in
set_option maxRecDepth 100000 in
theorem walkFnCapturePutBad (A : Option Addr) (n c : Nat) (w : World) (h : Bts w A n c) :
    Calls Try.prog 9 #[.slice A n c] w fun e w' => e = .returned (.bool true) ∧ Below w.heap.size w w' := by
  have hle := h.le
  have H := Lib.hid h; clear h
  by_cases hn : 1048576 < n
  · go_enter Try.func9, Try.ntmps9
    go_wp2
    go_ret
    exact ⟨rfl, Below.refl _ _⟩
  · go_enter Try.func9, Try.ntmps9
    go_wp2_with fail
    refine (draw_cap_put _ _ _ _ H.out).mono ?_
    rintro e w1 ⟨A1, n1, c1, l, rfl, hl, hn1, hok, o1, b1⟩
    have s1 := b1.size
    have B1 := Lib.hid b1
    have le1 : w.heap.size ≤ w1.heap.size := by simpa using s1
    clear s1
    have O1_1 := Lib.hid o1
    clear b1 o1
    have HL := Lib.hid hl
    have HO := Lib.hid hok
    clear hl hok
    by_cases h1 : capB l = true
    · have H1 := Lib.hid h1
      have hz := put_size h1
      have h60 : n1 ≤ 60 := by have := (capB_true h1).1; have := HL.out; omega
      obtain ⟨S, hS⟩ : ∃ S, S = capPut l := ⟨_, rfl⟩
      rw [← hS] at hz
      have SC := Lib.hid (fun (A : Option Addr) (c : Nat) (w : World) hs => (by rw [hS]; exact scap_put A n1 c l w hs HL.out (by omega) HO.out.txts : Calls Try.prog 30 #[.slice A n1 c] w fun e w' => e = .returned (.string S) ∧ Below w.heap.size w w'))
      have IC := Lib.hid (fun (A : Option Addr) (c : Nat) (w : World) hs => (by rw [hS]; exact icap_put A n1 c l w hs HL.out (by omega) HO.out.txts : Calls Try.prog 31 #[.slice A n1 c] w fun e w' => e = .returned (.string S) ∧ Below w.heap.size w w'))
      have HS := Lib.hid (hS.trans (capPut_yes h1))
      have hz4 : 4 ≤ S.size := by omega
      have hzm : S.size ≤ 8000 := by have := put_max h1; rw [← hS] at this; exact this
      have hne := ba_some (show 0 < S.size by omega)
      clear h1 hS hz
      go_wp2_with fail
      refine (IC.out _ _ _ O1_1.out.sl).mono ?_
      rintro e w2 ⟨rfl, b2⟩
      have O1_2 := Lib.hid (O1_1.out.below b2 (Nat.le_refl _))
      have s2 := b2.size
      have B2 := Lib.hid (bstep B1.out b2 B1.out.size)
      have le2 : w1.heap.size ≤ w2.heap.size := by simpa using s2
      clear s2
      clear b2
      go_wp2_with fail
      refine (SC.out _ _ _ O1_2.out.sl).mono ?_
      rintro e w3 ⟨rfl, b3⟩
      have O1_3 := Lib.hid (O1_2.out.below b3 (Nat.le_refl _))
      have s3 := b3.size
      have B3 := Lib.hid (bstep B2.out b3 B2.out.size)
      have le3 : w2.heap.size ≤ w3.heap.size := by simpa using s3
      clear s3
      clear b3
      go_wp2_with fail
      refine (icap_valid_eq H1.out _ _ _ _ O1_3.out.sl HL.out (by omega) HO.out.txts).mono ?_
      rintro e w4 ⟨rfl, b4⟩
      have O1_4 := Lib.hid (O1_3.out.below b4 (Nat.le_refl _))
      have s4 := b4.size
      have B4 := Lib.hid (bstep B3.out b4 B3.out.size)
      have le4 : w3.heap.size ≤ w4.heap.size := by simpa using s4
      clear s4
      clear b4
      go_wp2
      go_ret
      exact ⟨rfl, B4.out⟩
    · have h1 : capB l = false := by simpa using h1
      obtain ⟨S, hS⟩ : ∃ S, S = capPut l := ⟨_, rfl⟩
      have SC := Lib.hid (fun (A : Option Addr) (c : Nat) (w : World) hs => (by rw [hS]; exact scap_put A n1 c l w hs HL.out (by omega) HO.out.txts : Calls Try.prog 30 #[.slice A n1 c] w fun e w' => e = .returned (.string S) ∧ Below w.heap.size w w'))
      have IC := Lib.hid (fun (A : Option Addr) (c : Nat) (w : World) hs => (by rw [hS]; exact icap_put A n1 c l w hs HL.out (by omega) HO.out.txts : Calls Try.prog 31 #[.slice A n1 c] w fun e w' => e = .returned (.string S) ∧ Below w.heap.size w w'))
      rw [hS.trans (capPut_no h1)] at IC SC
      go_wp2_with fail
      refine (IC.out _ _ _ O1_1.out.sl).mono ?_
      rintro e w2 ⟨rfl, b2⟩
      have O1_2 := Lib.hid (O1_1.out.below b2 (Nat.le_refl _))
      have s2 := b2.size
      have B2 := Lib.hid (bstep B1.out b2 B1.out.size)
      have le2 : w1.heap.size ≤ w2.heap.size := by simpa using s2
      clear s2
      clear b2
      go_wp2_with fail
      refine (SC.out _ _ _ O1_2.out.sl).mono ?_
      rintro e w3 ⟨rfl, b3⟩
      have O1_3 := Lib.hid (O1_2.out.below b3 (Nat.le_refl _))
      have s3 := b3.size
      have B3 := Lib.hid (bstep B2.out b3 B2.out.size)
      have le3 : w2.heap.size ≤ w3.heap.size := by simpa using s3
      clear s3
      clear b3
      go_wp2_with fail
      refine (icap_valid_eq h1 _ _ _ _ O1_3.out.sl HL.out (by omega) HO.out.txts).mono ?_
      rintro e w4 ⟨rfl, b4⟩
      have O1_4 := Lib.hid (O1_3.out.below b4 (Nat.le_refl _))
      have s4 := b4.size
      have B4 := Lib.hid (bstep B3.out b4 B3.out.size)
      have le4 : w3.heap.size ≤ w4.heap.size := by simpa using s4
      clear s4
      clear b4
      go_wp2
      go_ret
      exact ⟨rfl, B4.out⟩
end Go.Proofs.Ytmphkogaclfjmaa
