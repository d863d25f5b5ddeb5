/-
  The walk of 'FnCaptureSize'. Condition: each code is a slice of bytes.
-/
import Derived.Test.YtmphkogaclfjmaaCapQ
import Derived.Test.YtmphkogaclfjmaaFrame
namespace Go.Proofs.Ytmphkogaclfjmaa
open Go.ChangeShapes Go.WideShapes Go.ChangeAt Go.RowKit
set_option linter.unusedVariables false
set_option linter.unusedSimpArgs false
set_option maxHeartbeats 1600000 in
set_option maxRecDepth 100000 in
theorem walkFnCaptureSize (A : Option Addr) (n c : Nat) (w : World) (h : Bts w A n c) :
    Calls Try.prog 10 #[.slice A n c] w fun e w' => e = .returned (.bool true) ∧ Below w.heap.size w w' := by
  have hle := h.le
  have H := Lib.hid h; clear h
  by_cases hn : 1048576 < n
  · go_enter Try.func10, Try.ntmps10
    go_wp2
    go_ret
    exact ⟨rfl, Below.refl _ _⟩
  · go_enter Try.func10, Try.ntmps10
    go_wp2_with fail
    refine (draw_cap_put _ _ _ _ H.out).mono ?_
    rintro e w1 ⟨A1, n1, c1, l, rfl, hl, hn1, hok, o1, b1⟩
    have s1 := b1.size
    have B1 := Lib.hid b1
    have le1 : w.heap.size ≤ w1.heap.size := by simpa using s1
    clear s1
    have O1_1 := Lib.hid o1
    clear b1 o1
    have HL := Lib.hid hl
    have HO := Lib.hid hok
    clear hl hok
    by_cases h1 : capB l = true
    · have H1 := Lib.hid h1
      have hz := put_size h1
      have h60 : n1 ≤ 60 := by have := (capB_true h1).1; have := HL.out; omega
      obtain ⟨S, hS⟩ : ∃ S, S = capPut l := ⟨_, rfl⟩
      rw [← hS] at hz
      have SC := Lib.hid (fun (A : Option Addr) (c : Nat) (w : World) hs => (by rw [hS]; exact scap_put A n1 c l w hs HL.out (by omega) HO.out.txts : Calls Try.prog 30 #[.slice A n1 c] w fun e w' => e = .returned (.string S) ∧ Below w.heap.size w w'))
      have IC := Lib.hid (fun (A : Option Addr) (c : Nat) (w : World) hs => (by rw [hS]; exact icap_put A n1 c l w hs HL.out (by omega) HO.out.txts : Calls Try.prog 31 #[.slice A n1 c] w fun e w' => e = .returned (.string S) ∧ Below w.heap.size w w'))
      have HS := Lib.hid (hS.trans (capPut_yes h1))
      have hz4 : 4 ≤ S.size := by omega
      have hzm : S.size ≤ 8000 := by have := put_max h1; rw [← hS] at this; exact this
      have hne := ba_some (show 0 < S.size by omega)
      have hx : (0 : Int) ≤ 4 ∧ (4 : Int) ≤ (S.size : Int) := by omega
      have hcmp := tap_cmp (s := S) (by omega)
      rw [decide_eq_true (show (bl S).take 4 = tap from by rw [HS.out]; rfl)] at hcmp
      have HZ := Lib.hid (show (S.size : Int) = sizes l from by rw [HS.out, mk_size]; exact size_sum l)
      clear h1 hS hz
      go_wp2_with fail
      refine (IC.out _ _ _ O1_1.out.sl).mono ?_
      rintro e w2 ⟨rfl, b2⟩
      have O1_2 := Lib.hid (O1_1.out.below b2 (Nat.le_refl _))
      have s2 := b2.size
      have B2 := Lib.hid (bstep B1.out b2 B1.out.size)
      have le2 : w1.heap.size ≤ w2.heap.size := by simpa using s2
      clear s2
      clear b2
      go_wp2_with fail
      refine (SC.out _ _ _ O1_2.out.sl).mono ?_
      rintro e w3 ⟨rfl, b3⟩
      have O1_3 := Lib.hid (O1_2.out.below b3 (Nat.le_refl _))
      have s3 := b3.size
      have B3 := Lib.hid (bstep B2.out b3 B2.out.size)
      have le3 : w2.heap.size ≤ w3.heap.size := by simpa using s3
      clear s3
      clear b3
      go_wp2
      go_loopw [6, 7] (fun m i wr => ∃ (k : Nat) (M : Int), k ≤ n1 ∧ i = .int .i64 k ∧ m = .int .i64 M ∧ Hid (M = sizes (l.take k)) ∧ 4 ≤ M ∧ M ≤ 4 + 200 * k ∧ ∃ m, wr = w3.drewN m) (fun _ i _ => n1 - (intOf i).toNat)
      case atStart => exact ⟨0, 4, by omega, rfl, rfl, Lib.hid rfl, by omega, by omega, 0, rfl⟩
      case round =>
        obtain ⟨k, M, hk, rfl, rfl, hM, hM1, hM2, m, rfl⟩ := hrel
        by_cases hlt : k < n1
        · obtain ⟨r, hr⟩ := fget_of_lt (xs := l) (k := k) (by rw [HL.out]; exact hlt)
          obtain ⟨b, off, rfl, hbl, e1, e2⟩ := recs_elem O1_3.out.sl hr
          have hrs := (HO.out r (List.mem_of_getElem? hr)).2.2
          have HK := Lib.hid (sizes_step hr)
          obtain ⟨t, s⟩ := r
          change s.size ≤ 121 at hrs
          clear hr hbl
          go_wp2
          go_roundw
          case rel => exact ⟨k + 1, M + 6 + s.size, by omega, by go_num, by go_num, Lib.hid (by rw [HK.out, hM.out]), by omega, by omega, _, rfl⟩
          case measure => simp [intOf]; omega
        · have HE := Lib.hid (show (S.size : Int) = M from by rw [HZ.out, hM.out, List.take_of_length_le (by rw [HL.out]; omega)])
          have he : ((S.size : Int) == M) = true := by rw [HE.out]; simp
          clear hM
          go_wp2
          go_ret
          first | exact ⟨rfl, below_drewN B3.out _⟩ | exact ⟨ret_bool (by simp [HE.out]), below_drewN B3.out _⟩ | exact ⟨ret_bool (by have := HE.out; simp; omega), below_drewN B3.out _⟩
    · have h1 : capB l = false := by simpa using h1
      obtain ⟨S, hS⟩ : ∃ S, S = capPut l := ⟨_, rfl⟩
      have SC := Lib.hid (fun (A : Option Addr) (c : Nat) (w : World) hs => (by rw [hS]; exact scap_put A n1 c l w hs HL.out (by omega) HO.out.txts : Calls Try.prog 30 #[.slice A n1 c] w fun e w' => e = .returned (.string S) ∧ Below w.heap.size w w'))
      have IC := Lib.hid (fun (A : Option Addr) (c : Nat) (w : World) hs => (by rw [hS]; exact icap_put A n1 c l w hs HL.out (by omega) HO.out.txts : Calls Try.prog 31 #[.slice A n1 c] w fun e w' => e = .returned (.string S) ∧ Below w.heap.size w w'))
      rw [hS.trans (capPut_no h1)] at IC SC
      go_wp2_with fail
      refine (IC.out _ _ _ O1_1.out.sl).mono ?_
      rintro e w2 ⟨rfl, b2⟩
      have O1_2 := Lib.hid (O1_1.out.below b2 (Nat.le_refl _))
      have s2 := b2.size
      have B2 := Lib.hid (bstep B1.out b2 B1.out.size)
      have le2 : w1.heap.size ≤ w2.heap.size := by simpa using s2
      clear s2
      clear b2
      go_wp2_with fail
      refine (SC.out _ _ _ O1_2.out.sl).mono ?_
      rintro e w3 ⟨rfl, b3⟩
      have O1_3 := Lib.hid (O1_2.out.below b3 (Nat.le_refl _))
      have s3 := b3.size
      have B3 := Lib.hid (bstep B2.out b3 B2.out.size)
      have le3 : w2.heap.size ≤ w3.heap.size := by simpa using s3
      clear s3
      clear b3
      go_wp2
      go_ret
      exact ⟨rfl, B3.out⟩
end Go.Proofs.Ytmphkogaclfjmaa
