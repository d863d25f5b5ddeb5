/-
  The walk of 'FnExactCapturePut'. Condition: the list can be read.
-/
import Derived.Test.YtmphkogaclfjmaaCapE
import Derived.Test.YtmphkogaclfjmaaCapW
import Derived.Test.YtmphkogaclfjmaaCapI
import Derived.Test.YtmphkogaclfjmaaFrame
namespace Go.Proofs.Ytmphkogaclfjmaa
open Go.ChangeShapes Go.WideShapes Go.ChangeAt Go.RowKit
set_option linter.unusedVariables false
set_option linter.unusedSimpArgs false
set_option maxHeartbeats 1600000 in
theorem walkFnExactCapturePut (A : Option Addr) (n c : Nat) (l : List Rec) (w : World) (hs : Sl w w.heap.size A (recs l)) (hn : l.length = n) (hc : n ≤ c) (hm : c ≤ maxLen) (ht : Txts l) :
    Calls Try.prog 8 #[.slice A n c] w fun e w' => e = .returned (.bool true) ∧ Below w.heap.size w w' := by
  have HS := Lib.hid hs; have HN := Lib.hid hn; have HT := Lib.hid ht; clear hs hn ht
  have hm2 : n ≤ 9223372036854775807 := by unfold maxLen at hm; omega
  obtain ⟨K, hK⟩ : ∃ K, K = capPut l := ⟨_, rfl⟩
  have SC := Lib.hid (fun (A : Option Addr) (n c : Nat) (w : World) hs hn hm ht => scap_put A n c l w hs hn hm ht)
  have IC := Lib.hid (fun (A : Option Addr) (n c : Nat) (w : World) hs hn hm ht => icap_put A n c l w hs hn hm ht)
  rw [← hK] at SC IC
  clear hK
  go_enter Try.func8, Try.ntmps8
  go_wp2_with fail
  refine (sz_recs _ _ _ l _ HS.out HN.out hm2 HT.out).mono ?_
  rintro e w1 ⟨m, rfl, hmm, b1⟩
  have s1 := b1.size
  have B1 := Lib.hid b1
  have le1 : w.heap.size ≤ w1.heap.size := by simpa using s1
  clear s1
  clear b1
  rcases hmm with rfl | ⟨m0, m1, hn2⟩
  · go_wp2
    go_ret
    exact ⟨rfl, B1.out⟩
  · have hge : ¬ (m < 0) := by omega
    go_wp2_with fail
    refine (to_recs _ _ _ l _ ((HS.out.below B1.out (Nat.le_refl _)).more B1.out.size) HN.out hn2).mono ?_
    rintro e w2 ⟨A2, c2, rfl, o2, b2⟩
    have s2 := b2.size
    have B2 := Lib.hid (bstep B1.out b2 B1.out.size)
    have le2 : w1.heap.size ≤ w2.heap.size := by simpa using s2
    clear s2
    have Ot_2 := Lib.hid o2
    clear b2 o2
    go_wp2_with fail
    refine (SC.out _ _ _ _ Ot_2.out.sl HN.out hm2 HT.out).mono ?_
    rintro e w3 ⟨rfl, b3⟩
    have Ot_3 := Lib.hid (Ot_2.out.below b3 (Nat.le_refl _))
    have s3 := b3.size
    have B3 := Lib.hid (bstep B2.out b3 B2.out.size)
    have le3 : w2.heap.size ≤ w3.heap.size := by simpa using s3
    clear s3
    clear b3
    go_wp2_with fail
    refine (to_recs _ _ _ l _ ((HS.out.below B3.out (Nat.le_refl _)).more B3.out.size) HN.out hn2).mono ?_
    rintro e w4 ⟨A4, c4, rfl, o4, b4⟩
    have Ot_4 := Lib.hid (Ot_3.out.below b4 (Nat.le_refl _))
    have s4 := b4.size
    have B4 := Lib.hid (bstep B3.out b4 B3.out.size)
    have le4 : w3.heap.size ≤ w4.heap.size := by simpa using s4
    clear s4
    have Ox_4 := Lib.hid o4
    clear b4 o4
    go_wp2_with fail
    refine (IC.out _ _ _ _ Ox_4.out.sl HN.out hm2 HT.out).mono ?_
    rintro e w5 ⟨rfl, b5⟩
    have Ot_5 := Lib.hid (Ot_4.out.below b5 (Nat.le_refl _))
    have Ox_5 := Lib.hid (Ox_4.out.below b5 (Nat.le_refl _))
    have s5 := b5.size
    have B5 := Lib.hid (bstep B4.out b5 B4.out.size)
    have le5 : w4.heap.size ≤ w5.heap.size := by simpa using s5
    clear s5
    clear b5
    go_wp2_with fail
    refine (to_recs _ _ _ l _ ((HS.out.below B5.out (Nat.le_refl _)).more B5.out.size) HN.out hn2).mono ?_
    rintro e w6 ⟨A7, c7, rfl, o7, b6⟩
    have Ot_6 := Lib.hid (Ot_5.out.below b6 (Nat.le_refl _))
    have Ox_6 := Lib.hid (Ox_5.out.below b6 (Nat.le_refl _))
    have s6 := b6.size
    have B6 := Lib.hid (bstep B5.out b6 B5.out.size)
    have le6 : w5.heap.size ≤ w6.heap.size := by simpa using s6
    clear s6
    have Ot7_6 := Lib.hid o7
    clear b6 o7
    go_wp2_with fail
    refine (eq_recs _ _ _ _ _ l _ Ox_6.out.sl Ot7_6.out.sl HN.out hm2).mono ?_
    rintro e w7 ⟨rfl, b7⟩
    have Ot_7 := Lib.hid (Ot_6.out.below b7 (Nat.le_refl _))
    have Ox_7 := Lib.hid (Ox_6.out.below b7 (Nat.le_refl _))
    have Ot7_7 := Lib.hid (Ot7_6.out.below b7 (Nat.le_refl _))
    have s7 := b7.size
    have B7 := Lib.hid (bstep B6.out b7 B6.out.size)
    have le7 : w6.heap.size ≤ w7.heap.size := by simpa using s7
    clear s7
    clear b7
    go_wp2
    go_ret
    exact ⟨rfl, B7.out⟩
end Go.Proofs.Ytmphkogaclfjmaa
