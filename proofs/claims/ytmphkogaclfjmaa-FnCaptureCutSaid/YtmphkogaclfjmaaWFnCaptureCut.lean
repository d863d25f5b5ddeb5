/-
  The walk of 'FnCaptureCut'. Condition: each code is a slice of bytes.
-/
import Derived.Test.YtmphkogaclfjmaaCapQ
import Derived.Test.YtmphkogaclfjmaaCapG
import Derived.Test.YtmphkogaclfjmaaSlice
import Derived.Test.YtmphkogaclfjmaaWFnCapturePart
import Derived.Test.YtmphkogaclfjmaaFrame
namespace Go.Proofs.Ytmphkogaclfjmaa
open Go.ChangeShapes Go.WideShapes Go.ChangeAt Go.RowKit
set_option linter.unusedVariables false
set_option linter.unusedSimpArgs false
theorem own_or {w : World} {base : Nat} {e : TypeId} {size n c : Nat} {A : Option Addr} {xs : List Value} (h : Own w base e size A n c xs) : (A = none ∧ n = 0 ∧ c = 0) ∨ ∃ g, A = some ⟨g, 0, none⟩ ∧ n ≤ c := by
  rcases h.2 with ⟨hv, _⟩ | ⟨g, cap, cur, hv, _, _, hnc, _⟩
  · injection hv with h1 h2 h3
    exact .inl ⟨h1, h2, h3⟩
  · injection hv with h1 h2 h3
    subst h3
    exact .inr ⟨g, h1, hnc⟩
set_option maxHeartbeats 1600000 in
set_option maxRecDepth 100000 in
theorem walkFnCaptureCut (A : Option Addr) (n c : Nat) (A0 : Option Addr) (n0 c0 : Nat) (w : World) (h : Bts w A n c) (h0 : Bts w A0 n0 c0) :
    Calls Try.prog 13 #[.slice A n c, .slice A0 n0 c0] w fun e w' => e = .returned (.bool true) ∧ Below w.heap.size w w' := by
  obtain ⟨i0, hi, hz0, hz1, hz2⟩ := info_parts info_rec
  have hle := h.le
  have hle0 := h0.le
  have H := Lib.hid h; clear h h0
  by_cases hn : 1048576 < n
  · go_enter Try.func13, Try.ntmps13
    go_wp2
    go_ret
    exact ⟨rfl, Below.refl _ _⟩
  by_cases hn0 : 1048576 < n0
  · go_enter Try.func13, Try.ntmps13
    go_wp2
    go_ret
    exact ⟨rfl, Below.refl _ _⟩
  · go_enter Try.func13, Try.ntmps13
    go_wp2_with fail
    refine (draw_cap_put _ _ _ _ H.out).mono ?_
    rintro e w1 ⟨A1, n1, c1, l, rfl, hl, hn1, hok, o1, b1⟩
    have s1 := b1.size
    have B1 := Lib.hid b1
    have le1 : w.heap.size ≤ w1.heap.size := by simpa using s1
    clear s1
    have O1_1 := Lib.hid o1
    clear b1 o1
    have HL := Lib.hid hl
    have HO := Lib.hid hok
    clear hl hok
    by_cases h1 : capB l = true
    · have H1 := Lib.hid h1
      have hz := put_size h1
      have h60 : n1 ≤ 60 := by have := (capB_true h1).1; have := HL.out; omega
      obtain ⟨S, hS⟩ : ∃ S, S = capPut l := ⟨_, rfl⟩
      rw [← hS] at hz
      have SC := Lib.hid (fun (A : Option Addr) (c : Nat) (w : World) hs => (by rw [hS]; exact scap_put A n1 c l w hs HL.out (by omega) HO.out.txts : Calls Try.prog 30 #[.slice A n1 c] w fun e w' => e = .returned (.string S) ∧ Below w.heap.size w w'))
      have IC := Lib.hid (fun (A : Option Addr) (c : Nat) (w : World) hs => (by rw [hS]; exact icap_put A n1 c l w hs HL.out (by omega) HO.out.txts : Calls Try.prog 31 #[.slice A n1 c] w fun e w' => e = .returned (.string S) ∧ Below w.heap.size w w'))
      have HS := Lib.hid (hS.trans (capPut_yes h1))
      have hz4 : 4 ≤ S.size := by omega
      have hzm : S.size ≤ 8000 := by have := put_max h1; rw [← hS] at this; exact this
      have hne := ba_some (show 0 < S.size by omega)
      clear h1 hS hz
      go_wp2_with fail
      refine (IC.out _ _ _ O1_1.out.sl).mono ?_
      rintro e w2 ⟨rfl, b2⟩
      have O1_2 := Lib.hid (O1_1.out.below b2 (Nat.le_refl _))
      have s2 := b2.size
      have B2 := Lib.hid (bstep B1.out b2 B1.out.size)
      have le2 : w1.heap.size ≤ w2.heap.size := by simpa using s2
      clear s2
      clear b2
      go_wp2_with fail
      refine (SC.out _ _ _ O1_2.out.sl).mono ?_
      rintro e w3 ⟨rfl, b3⟩
      have O1_3 := Lib.hid (O1_2.out.below b3 (Nat.le_refl _))
      have s3 := b3.size
      have B3 := Lib.hid (bstep B2.out b3 B2.out.size)
      have le3 : w2.heap.size ≤ w3.heap.size := by simpa using s3
      clear s3
      clear b3
      obtain ⟨k, hk⟩ : ∃ k : Nat, k = 4 + n0 % (S.size - 3) := ⟨_, rfl⟩
      have hkS : k ≤ S.size := by have := Nat.mod_lt n0 (show 0 < S.size - 3 by omega); omega
      have hk4 : 4 ≤ k := by omega
      have hk0 : (n0 : Int) % ((S.size : Int) - 3) = ((n0 % (S.size - 3) : Nat) : Int) := by rw [Int.natCast_emod]; congr 1; omega
      have hk2 : (4 : Int) + (n0 : Int) % ((S.size : Int) - 3) = (k : Int) := by rw [hk0]; omega
      clear hk hk0
      obtain ⟨x, m, hx⟩ : ∃ x m, capBegin (bl (S.extract 0 k)) = (x, m) := ⟨_, _, rfl⟩
      have HCut := Lib.hid (show m ≤ k ∧ x.length ≤ l.length ∧ x = l.take x.length ∧ (k < S.size ∨ x.length = l.length) from by
        have := begin_cut H1.out k hk4 (by have e := congrArg ByteArray.size HS.out; rw [mk_size] at e; omega)
        have e : bl (S.extract 0 k) = (capBytes l).take k := by rw [bl_extract, HS.out, bl_mk]; rfl
        rw [e] at hx
        rw [hx] at this
        have e2 := congrArg ByteArray.size HS.out
        rw [mk_size] at e2
        rw [e2]
        exact this)
      have HX := Lib.hid hx
      obtain ⟨nx, hnx⟩ : ∃ nx, nx = x.length := ⟨_, rfl⟩
      have hsx : (S.extract 0 k).size ≤ 1100000 := by rw [ByteArray.size_extract]; omega
      have BC := Lib.hid (fun w => (by rw [hnx]; exact icap_begin hsx HX.out w : Calls Try.prog 25 #[.string (S.extract 0 k)] w (fun e w' => ∃ A c, e = .returned (.tuple #[.slice A nx c, .int .i64 m]) ∧ Own w' w.heap.size 33 2 A nx c (recs x) ∧ Below w.heap.size w w')))
      obtain ⟨q1, q2, q3, q4⟩ := HCut.out
      rw [← hnx, HL.out] at q2
      rw [← hnx] at q3
      rw [← hnx, HL.out] at q4
      have HXL := Lib.hid hnx.symm
      have HX3 := Lib.hid q3
      clear hx hnx HCut q3
      have hb1 : (0 : Int) ≤ (k : Int) := by omega
      have hb2 : (k : Int) ≤ (S.size : Int) := by omega
      have hw1 := IntWalk.i64_in ((4 : Int) + (n0 : Int) % ((S.size : Int) - 3)) (by rw [hk2]; omega)
      go_wp2_with fail
      refine (BC.out _).mono ?_
      rintro e w4 ⟨A5, c5, rfl, o5, b4⟩
      have O1_4 := Lib.hid (O1_3.out.below b4 (Nat.le_refl _))
      have s4 := b4.size
      have B4 := Lib.hid (bstep B3.out b4 B3.out.size)
      have le4 : w3.heap.size ≤ w4.heap.size := by simpa using s4
      clear s4
      have O5_4 := Lib.hid o5
      clear b4 o5
      have p1 : (m : Int) ≤ (k : Int) := by omega
      have p2 : (nx : Int) ≤ (n1 : Int) := by omega
      have p3 : (0 : Int) ≤ (nx : Int) := by omega
      have p4 : ((k : Int) < (S.size : Int)) ∨ (¬ ((k : Int) < (S.size : Int)) ∧ ((nx : Int) == (n1 : Int)) = true) := by
        by_cases hh : k < S.size
        · exact .inl (by omega)
        · exact .inr ⟨by omega, by simp; omega⟩
      clear q1 q4
      rcases own_or O1_4.out with ⟨rfl, rfl, rfl⟩ | ⟨ga, rfl, hcap⟩
      · obtain rfl : nx = 0 := by omega
        have hx0 : x = [] := List.eq_nil_of_length_eq_zero HXL.out
        subst hx0
        have HH := Lib.hid (Sl.nil w4 w4.heap.size (none : Option Addr))
        rcases p4 with p4 | ⟨p4, p5⟩
        all_goals
          go_wp2_with fail
          refine (same_recs _ _ 0 _ _ [] _ O5_4.out.sl HH.out rfl (by omega)).mono ?_
          rintro e w5 ⟨rfl, mm, hm⟩
          have b5 := show Below w4.heap.size w4 w5 from by rw [hm]; exact below_drewN (Below.refl _ _) mm
          clear hm
          have O1_5 := Lib.hid (O1_4.out.below b5 (Nat.le_refl _))
          have O5_5 := Lib.hid (O5_4.out.below b5 (Nat.le_refl _))
          have s5 := b5.size
          have B5 := Lib.hid (bstep B4.out b5 B4.out.size)
          have le5 : w4.heap.size ≤ w5.heap.size := by simpa using s5
          clear s5
          clear b5
          go_wp2
          go_ret
          first | exact ⟨rfl, B5.out⟩ | exact ⟨ret_bool (by simp [p5]), B5.out⟩ | exact ⟨ret_bool (by simp; omega), B5.out⟩
      · have sh := fun w => slice_head Try.underlying25 hi ga n1 c1 (nx : Int) nx rfl (by omega) w
        have HH := Lib.hid (show Sl w4 w4.heap.size (some ⟨ga, 0, none⟩) (recs x) from by rw [HX3.out]; exact sl_head O1_4.out.sl nx)
        rcases p4 with p4 | ⟨p4, p5⟩
        all_goals
          go_wp2_with fail
          refine (same_recs _ _ _ _ _ x _ O5_4.out.sl HH.out HXL.out (by omega)).mono ?_
          rintro e w5 ⟨rfl, mm, hm⟩
          have b5 := show Below w4.heap.size w4 w5 from by rw [hm]; exact below_drewN (Below.refl _ _) mm
          clear hm
          have O1_5 := Lib.hid (O1_4.out.below b5 (Nat.le_refl _))
          have O5_5 := Lib.hid (O5_4.out.below b5 (Nat.le_refl _))
          have s5 := b5.size
          have B5 := Lib.hid (bstep B4.out b5 B4.out.size)
          have le5 : w4.heap.size ≤ w5.heap.size := by simpa using s5
          clear s5
          clear b5
          go_wp2
          go_ret
          first | exact ⟨rfl, B5.out⟩ | exact ⟨ret_bool (by simp [p5]), B5.out⟩ | exact ⟨ret_bool (by simp; omega), B5.out⟩
    · have h1 : capB l = false := by simpa using h1
      obtain ⟨S, hS⟩ : ∃ S, S = capPut l := ⟨_, rfl⟩
      have SC := Lib.hid (fun (A : Option Addr) (c : Nat) (w : World) hs => (by rw [hS]; exact scap_put A n1 c l w hs HL.out (by omega) HO.out.txts : Calls Try.prog 30 #[.slice A n1 c] w fun e w' => e = .returned (.string S) ∧ Below w.heap.size w w'))
      have IC := Lib.hid (fun (A : Option Addr) (c : Nat) (w : World) hs => (by rw [hS]; exact icap_put A n1 c l w hs HL.out (by omega) HO.out.txts : Calls Try.prog 31 #[.slice A n1 c] w fun e w' => e = .returned (.string S) ∧ Below w.heap.size w w'))
      rw [hS.trans (capPut_no h1)] at IC SC
      go_wp2_with fail
      refine (IC.out _ _ _ O1_1.out.sl).mono ?_
      rintro e w2 ⟨rfl, b2⟩
      have O1_2 := Lib.hid (O1_1.out.below b2 (Nat.le_refl _))
      have s2 := b2.size
      have B2 := Lib.hid (bstep B1.out b2 B1.out.size)
      have le2 : w1.heap.size ≤ w2.heap.size := by simpa using s2
      clear s2
      clear b2
      go_wp2_with fail
      refine (SC.out _ _ _ O1_2.out.sl).mono ?_
      rintro e w3 ⟨rfl, b3⟩
      have O1_3 := Lib.hid (O1_2.out.below b3 (Nat.le_refl _))
      have s3 := b3.size
      have B3 := Lib.hid (bstep B2.out b3 B2.out.size)
      have le3 : w2.heap.size ≤ w3.heap.size := by simpa using s3
      clear s3
      clear b3
      go_wp2
      go_ret
      exact ⟨rfl, B3.out⟩
end Go.Proofs.Ytmphkogaclfjmaa
