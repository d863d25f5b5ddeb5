/-
  The walk of 'FnCapturePut'. Condition: each code is a slice of bytes.
-/
import Derived.Test.YtmphkogaclfjmaaCapQ
import Derived.Test.YtmphkogaclfjmaaCapG
import Derived.Test.YtmphkogaclfjmaaFrame
namespace Go.Proofs.Ytmphkogaclfjmaa
open Go.ChangeShapes Go.WideShapes Go.ChangeAt Go.RowKit
set_option linter.unusedVariables false
set_option linter.unusedSimpArgs false
set_option maxHeartbeats 1600000 in
set_option maxRecDepth 100000 in
theorem walkFnCapturePut (A : Option Addr) (n c : Nat) (w : World) (h : Bts w A n c) :
    Calls Try.prog 15 #[.slice A n c] w fun e w' => e = .returned (.bool true) ∧ Below w.heap.size w w' := by
  have hle := h.le
  have H := Lib.hid h; clear h
  by_cases hn : 1048576 < n
  · go_enter Try.func15, Try.ntmps15
    go_wp2
    go_ret
    exact ⟨rfl, Below.refl _ _⟩
  · go_enter Try.func15, Try.ntmps15
    go_wp2_with fail
    refine (draw_cap_put _ _ _ _ H.out).mono ?_
    rintro e w1 ⟨A1, n1, c1, l, rfl, hl, hn1, hok, o1, b1⟩
    have s1 := b1.size
    have B1 := Lib.hid b1
    have le1 : w.heap.size ≤ w1.heap.size := by simpa using s1
    clear s1
    have O1_1 := Lib.hid o1
    clear b1 o1
    have HL := Lib.hid hl
    have HO := Lib.hid hok
    clear hl hok
    by_cases h1 : capB l = true
    · have H1 := Lib.hid h1
      have hz := put_size h1
      have h60 : n1 ≤ 60 := by have := (capB_true h1).1; have := HL.out; omega
      obtain ⟨S, hS⟩ : ∃ S, S = capPut l := ⟨_, rfl⟩
      rw [← hS] at hz
      have SC := Lib.hid (fun (A : Option Addr) (c : Nat) (w : World) hs => (by rw [hS]; exact scap_put A n1 c l w hs HL.out (by omega) HO.out.txts : Calls Try.prog 30 #[.slice A n1 c] w fun e w' => e = .returned (.string S) ∧ Below w.heap.size w w'))
      have IC := Lib.hid (fun (A : Option Addr) (c : Nat) (w : World) hs => (by rw [hS]; exact icap_put A n1 c l w hs HL.out (by omega) HO.out.txts : Calls Try.prog 31 #[.slice A n1 c] w fun e w' => e = .returned (.string S) ∧ Below w.heap.size w w'))
      have HS := Lib.hid (hS.trans (capPut_yes h1))
      have hz4 : 4 ≤ S.size := by omega
      have hzm : S.size ≤ 8000 := by have := put_max h1; rw [← hS] at this; exact this
      have hne := ba_some (show 0 < S.size by omega)
      have HG := Lib.hid (show capGet (bl S) = (l, true) from by rw [HS.out, bl_mk]; exact get_bytes h1)
      have GC := Lib.hid (fun w => (by rw [← HL.out]; exact icap_get (by omega) HG.out w : Calls Try.prog 29 #[.string S] w (fun e w' => ∃ A c, e = .returned (.tuple #[.slice A n1 c, .bool true]) ∧ Own w' w.heap.size 33 2 A n1 c (recs l) ∧ Below w.heap.size w w')))
      clear h1 hS hz
      go_wp2_with fail
      refine (IC.out _ _ _ O1_1.out.sl).mono ?_
      rintro e w2 ⟨rfl, b2⟩
      have O1_2 := Lib.hid (O1_1.out.below b2 (Nat.le_refl _))
      have s2 := b2.size
      have B2 := Lib.hid (bstep B1.out b2 B1.out.size)
      have le2 : w1.heap.size ≤ w2.heap.size := by simpa using s2
      clear s2
      clear b2
      go_wp2_with fail
      refine (SC.out _ _ _ O1_2.out.sl).mono ?_
      rintro e w3 ⟨rfl, b3⟩
      have O1_3 := Lib.hid (O1_2.out.below b3 (Nat.le_refl _))
      have s3 := b3.size
      have B3 := Lib.hid (bstep B2.out b3 B2.out.size)
      have le3 : w2.heap.size ≤ w3.heap.size := by simpa using s3
      clear s3
      clear b3
      go_wp2_with fail
      refine (GC.out _).mono ?_
      rintro e w4 ⟨A5, c5, rfl, o5, b4⟩
      have O1_4 := Lib.hid (O1_3.out.below b4 (Nat.le_refl _))
      have s4 := b4.size
      have B4 := Lib.hid (bstep B3.out b4 B3.out.size)
      have le4 : w3.heap.size ≤ w4.heap.size := by simpa using s4
      clear s4
      have O5_4 := Lib.hid o5
      clear b4 o5
      go_wp2_with fail
      refine (same_recs _ _ _ _ _ l _ O5_4.out.sl O1_4.out.sl HL.out (by omega)).mono ?_
      rintro e w5 ⟨rfl, m, hm⟩
      have b5 := show Below w4.heap.size w4 w5 from by rw [hm]; exact below_drewN (Below.refl _ _) m
      clear hm
      have O1_5 := Lib.hid (O1_4.out.below b5 (Nat.le_refl _))
      have O5_5 := Lib.hid (O5_4.out.below b5 (Nat.le_refl _))
      have s5 := b5.size
      have B5 := Lib.hid (bstep B4.out b5 B4.out.size)
      have le5 : w4.heap.size ≤ w5.heap.size := by simpa using s5
      clear s5
      clear b5
      go_wp2
      go_ret
      exact ⟨rfl, B5.out⟩
    · have h1 : capB l = false := by simpa using h1
      obtain ⟨S, hS⟩ : ∃ S, S = capPut l := ⟨_, rfl⟩
      have SC := Lib.hid (fun (A : Option Addr) (c : Nat) (w : World) hs => (by rw [hS]; exact scap_put A n1 c l w hs HL.out (by omega) HO.out.txts : Calls Try.prog 30 #[.slice A n1 c] w fun e w' => e = .returned (.string S) ∧ Below w.heap.size w w'))
      have IC := Lib.hid (fun (A : Option Addr) (c : Nat) (w : World) hs => (by rw [hS]; exact icap_put A n1 c l w hs HL.out (by omega) HO.out.txts : Calls Try.prog 31 #[.slice A n1 c] w fun e w' => e = .returned (.string S) ∧ Below w.heap.size w w'))
      rw [hS.trans (capPut_no h1)] at IC SC
      go_wp2_with fail
      refine (IC.out _ _ _ O1_1.out.sl).mono ?_
      rintro e w2 ⟨rfl, b2⟩
      have O1_2 := Lib.hid (O1_1.out.below b2 (Nat.le_refl _))
      have s2 := b2.size
      have B2 := Lib.hid (bstep B1.out b2 B1.out.size)
      have le2 : w1.heap.size ≤ w2.heap.size := by simpa using s2
      clear s2
      clear b2
      go_wp2_with fail
      refine (SC.out _ _ _ O1_2.out.sl).mono ?_
      rintro e w3 ⟨rfl, b3⟩
      have O1_3 := Lib.hid (O1_2.out.below b3 (Nat.le_refl _))
      have s3 := b3.size
      have B3 := Lib.hid (bstep B2.out b3 B2.out.size)
      have le3 : w2.heap.size ≤ w3.heap.size := by simpa using s3
      clear s3
      clear b3
      go_wp2
      go_ret
      exact ⟨rfl, B3.out⟩
end Go.Proofs.Ytmphkogaclfjmaa
