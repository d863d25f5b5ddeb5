/-
  The walk of 'FnSackSeen'. Condition: the code is a slice of bytes.
-/
import Derived.Test.YthmbapmakihmaaaSackE
import Derived.Test.YthmbapmakihmaaaDrawK
import Derived.Test.YthmbapmakihmaaaFrame
namespace Go.Proofs.Ythmbapmakihmaaa
open Go.ChangeShapes Go.WideShapes Go.ChangeAt Go.RowKit
set_option linter.unusedVariables false
set_option linter.unusedSimpArgs false
set_option maxHeartbeats 1600000 in
theorem walkFnSackSeen (A : Option Addr) (n c : Nat) (w : World) (h : Bts w A n c) :
    Calls Try.prog 3 #[.slice A n c] w fun e w' => e = .returned (.bool true) ∧ Below w.heap.size w w' := by
  have hle := h.le
  have H := Lib.hid h; clear h
  by_cases hn : 1048576 < n
  · go_enter Try.func3, Try.ntmps3
    go_wp2
    go_ret
    exact ⟨rfl, Below.refl _ _⟩
  · go_enter Try.func3, Try.ntmps3
    go_wp2_with fail
    refine (draw_sack_seen _ _ _ _ H.out).mono ?_
    rintro e w1 ⟨cum, A1, n1, c1, gs, rfl, hzl, hn1, o1, b1⟩
    subst hzl
    have s1 := b1.size
    have B1 := Lib.hid b1
    have le1 : w.heap.size ≤ w1.heap.size := by simpa using s1
    clear s1
    have O1_1 := Lib.hid o1
    clear b1 o1
    have ISK := Lib.hid (fun (A : Option Addr) (n c : Nat) (w : World) hs hn hm => isack_seen cum A n c gs w hs hn hm)
    have SSK := Lib.hid (fun (A : Option Addr) (n c : Nat) (w : World) hs hn hm => ssack_seen cum A n c gs w hs hn hm)
    by_cases h1 : sackB cum gs = true
    · have htl := tell_len h1
      have XSS := Lib.hid (fun (A : Option Addr) (n c : Nat) (w : World) hs hn hm => iseen_sack cum A n c (tell gs) w hs hn hm)
      simp only [ssp_yes h1] at ISK SSK
      simp only [skp_yes (tell_ok h1), gapsOf_tell h1] at XSS
      clear h1
      go_wp2_with fail
      refine (ISK.out _ _ _ _ ((O1_1.out.sl.alloc (Nat.le_refl _) _).more (by simp)) rfl (by omega)).mono ?_
      rintro e w2 ⟨A2, c2, rfl, o2, b2'⟩
      obtain ⟨q2_0, z2, b2⟩ := boxed b2'
      have O1_2 := Lib.hid (O1_1.out.below b2 (Nat.le_refl _))
      have s2 := b2.size
      have B2 := Lib.hid (bstep B1.out b2 B1.out.size)
      have le2 : w1.heap.size ≤ w2.heap.size := by simpa using s2
      clear s2
      have Qs_2 := Lib.hid q2_0
      have O2_2 := Lib.hid o2
      clear b2 b2' q2_0 o2
      have ls : w1.heap.size < w2.heap.size := Qs_2.out.lt
      have cs0 : w2.cell? ⟨w1.heap.size, 0, none⟩ = some (.int .i64 cum) := Qs_2.out.get 0 rfl
      have cs1 : w2.cell? ⟨w1.heap.size, 1, none⟩ = some (.slice A1 gs.length c1) := Qs_2.out.get 1 rfl
      go_wp2_with fail
      refine (SSK.out _ _ _ _ ((O1_2.out.sl.alloc (Nat.le_refl _) _).more (by simp)) rfl (by omega)).mono ?_
      rintro e w3 ⟨A3, c3, rfl, o3, b3'⟩
      obtain ⟨q3_0, z3, b3⟩ := boxed b3'
      clear ls cs0 cs1
      have O1_3 := Lib.hid (O1_2.out.below b3 (Nat.le_refl _))
      have Qs_3 := Lib.hid (Qs_2.out.below b3 Qs_2.out.lt)
      have O2_3 := Lib.hid (O2_2.out.below b3 (Nat.le_refl _))
      have s3 := b3.size
      have B3 := Lib.hid (bstep B2.out b3 B2.out.size)
      have le3 : w2.heap.size ≤ w3.heap.size := by simpa using s3
      clear s3
      have Qout_3 := Lib.hid q3_0
      have O3_3 := Lib.hid o3
      clear b3 b3' q3_0 o3
      have lout : w2.heap.size < w3.heap.size := Qout_3.out.lt
      have cout0 : w3.cell? ⟨w2.heap.size, 0, none⟩ = some (.int .i64 cum) := Qout_3.out.get 0 rfl
      have cout1 : w3.cell? ⟨w2.heap.size, 1, none⟩ = some (.slice A2 (tell gs).length c2) := Qout_3.out.get 1 rfl
      go_wp2_with fail
      refine (same_seen _ _ _ _ _ _ (tell gs) _ ((O2_3.out.sl.alloc (Nat.le_refl _) _).more (by simp)) ((O3_3.out.sl.alloc (Nat.le_refl _) _).more (by simp)) rfl (by first | omega | simp)).mono ?_
      rintro e w4 ⟨rfl, b4'⟩
      obtain ⟨q4_0, z4, b4⟩ := boxed b4'
      clear lout cout0 cout1
      have O1_4 := Lib.hid (O1_3.out.below b4 (Nat.le_refl _))
      have Qs_4 := Lib.hid (Qs_3.out.below b4 Qs_3.out.lt)
      have O2_4 := Lib.hid (O2_3.out.below b4 (Nat.le_refl _))
      have Qout_4 := Lib.hid (Qout_3.out.below b4 Qout_3.out.lt)
      have O3_4 := Lib.hid (O3_3.out.below b4 (Nat.le_refl _))
      have s4 := b4.size
      have B4 := Lib.hid (bstep B3.out b4 B3.out.size)
      have le4 : w3.heap.size ≤ w4.heap.size := by simpa using s4
      clear s4
      have Qwant_4 := Lib.hid q4_0
      clear b4 b4' q4_0
      have lout : w2.heap.size < w4.heap.size := Qout_4.out.lt
      have cout0 : w4.cell? ⟨w2.heap.size, 0, none⟩ = some (.int .i64 cum) := Qout_4.out.get 0 rfl
      have cout1 : w4.cell? ⟨w2.heap.size, 1, none⟩ = some (.slice A2 (tell gs).length c2) := Qout_4.out.get 1 rfl
      go_wp2_with fail
      refine (XSS.out _ _ _ _ O2_4.out.sl rfl (by omega)).mono ?_
      rintro e w5 ⟨A5, c5, rfl, o5, b5⟩
      clear lout cout0 cout1
      have O1_5 := Lib.hid (O1_4.out.below b5 (Nat.le_refl _))
      have Qs_5 := Lib.hid (Qs_4.out.below b5 Qs_4.out.lt)
      have O2_5 := Lib.hid (O2_4.out.below b5 (Nat.le_refl _))
      have Qout_5 := Lib.hid (Qout_4.out.below b5 Qout_4.out.lt)
      have O3_5 := Lib.hid (O3_4.out.below b5 (Nat.le_refl _))
      have Qwant_5 := Lib.hid (Qwant_4.out.below b5 Qwant_4.out.lt)
      have s5 := b5.size
      have B5 := Lib.hid (bstep B4.out b5 B4.out.size)
      have le5 : w4.heap.size ≤ w5.heap.size := by simpa using s5
      clear s5
      have O5_5 := Lib.hid o5
      clear b5 o5
      have ls : w1.heap.size < w5.heap.size := Qs_5.out.lt
      have cs0 : w5.cell? ⟨w1.heap.size, 0, none⟩ = some (.int .i64 cum) := Qs_5.out.get 0 rfl
      have cs1 : w5.cell? ⟨w1.heap.size, 1, none⟩ = some (.slice A1 gs.length c1) := Qs_5.out.get 1 rfl
      go_wp2_with fail
      refine (same_sack _ _ _ _ _ _ gs _ ((O5_5.out.sl.alloc (Nat.le_refl _) _).more (by simp)) ((O1_5.out.sl.alloc (Nat.le_refl _) _).more (by simp)) rfl (by omega)).mono ?_
      rintro e w6 ⟨rfl, b6'⟩
      obtain ⟨q6_0, z6, b6⟩ := boxed b6'
      clear ls cs0 cs1
      have O1_6 := Lib.hid (O1_5.out.below b6 (Nat.le_refl _))
      have Qs_6 := Lib.hid (Qs_5.out.below b6 Qs_5.out.lt)
      have O2_6 := Lib.hid (O2_5.out.below b6 (Nat.le_refl _))
      have Qout_6 := Lib.hid (Qout_5.out.below b6 Qout_5.out.lt)
      have O3_6 := Lib.hid (O3_5.out.below b6 (Nat.le_refl _))
      have Qwant_6 := Lib.hid (Qwant_5.out.below b6 Qwant_5.out.lt)
      have O5_6 := Lib.hid (O5_5.out.below b6 (Nat.le_refl _))
      have s6 := b6.size
      have B6 := Lib.hid (bstep B5.out b6 B5.out.size)
      have le6 : w5.heap.size ≤ w6.heap.size := by simpa using s6
      clear s6
      have Qx_6 := Lib.hid q6_0
      clear b6 b6' q6_0
      go_wp2
      go_ret
      exact ⟨rfl, B6.out⟩
    · have h1 : sackB cum gs = false := by simpa using h1
      simp only [ssp_no h1] at ISK SSK
      clear h1
      go_wp2_with fail
      refine (ISK.out _ _ _ _ ((O1_1.out.sl.alloc (Nat.le_refl _) _).more (by simp)) rfl (by omega)).mono ?_
      rintro e w2 ⟨A2, c2, rfl, o2, b2'⟩
      obtain ⟨q2_0, z2, b2⟩ := boxed b2'
      have O1_2 := Lib.hid (O1_1.out.below b2 (Nat.le_refl _))
      have s2 := b2.size
      have B2 := Lib.hid (bstep B1.out b2 B1.out.size)
      have le2 : w1.heap.size ≤ w2.heap.size := by simpa using s2
      clear s2
      have Qs_2 := Lib.hid q2_0
      have O2_2 := Lib.hid o2
      clear b2 b2' q2_0 o2
      have ls : w1.heap.size < w2.heap.size := Qs_2.out.lt
      have cs0 : w2.cell? ⟨w1.heap.size, 0, none⟩ = some (.int .i64 cum) := Qs_2.out.get 0 rfl
      have cs1 : w2.cell? ⟨w1.heap.size, 1, none⟩ = some (.slice A1 gs.length c1) := Qs_2.out.get 1 rfl
      go_wp2_with fail
      refine (SSK.out _ _ _ _ ((O1_2.out.sl.alloc (Nat.le_refl _) _).more (by simp)) rfl (by omega)).mono ?_
      rintro e w3 ⟨A3, c3, rfl, o3, b3'⟩
      obtain ⟨q3_0, z3, b3⟩ := boxed b3'
      clear ls cs0 cs1
      have O1_3 := Lib.hid (O1_2.out.below b3 (Nat.le_refl _))
      have Qs_3 := Lib.hid (Qs_2.out.below b3 Qs_2.out.lt)
      have O2_3 := Lib.hid (O2_2.out.below b3 (Nat.le_refl _))
      have s3 := b3.size
      have B3 := Lib.hid (bstep B2.out b3 B2.out.size)
      have le3 : w2.heap.size ≤ w3.heap.size := by simpa using s3
      clear s3
      have Qout_3 := Lib.hid q3_0
      have O3_3 := Lib.hid o3
      clear b3 b3' q3_0 o3
      have lout : w2.heap.size < w3.heap.size := Qout_3.out.lt
      have cout0 : w3.cell? ⟨w2.heap.size, 0, none⟩ = some (.int .i64 0) := Qout_3.out.get 0 rfl
      have cout1 : w3.cell? ⟨w2.heap.size, 1, none⟩ = some (.slice A2 0 c2) := Qout_3.out.get 1 rfl
      go_wp2_with fail
      refine (same_seen _ _ _ _ _ _ [] _ ((O2_3.out.sl.alloc (Nat.le_refl _) _).more (by simp)) ((O3_3.out.sl.alloc (Nat.le_refl _) _).more (by simp)) rfl (by first | omega | simp)).mono ?_
      rintro e w4 ⟨rfl, b4'⟩
      obtain ⟨q4_0, z4, b4⟩ := boxed b4'
      clear lout cout0 cout1
      have O1_4 := Lib.hid (O1_3.out.below b4 (Nat.le_refl _))
      have Qs_4 := Lib.hid (Qs_3.out.below b4 Qs_3.out.lt)
      have O2_4 := Lib.hid (O2_3.out.below b4 (Nat.le_refl _))
      have Qout_4 := Lib.hid (Qout_3.out.below b4 Qout_3.out.lt)
      have O3_4 := Lib.hid (O3_3.out.below b4 (Nat.le_refl _))
      have s4 := b4.size
      have B4 := Lib.hid (bstep B3.out b4 B3.out.size)
      have le4 : w3.heap.size ≤ w4.heap.size := by simpa using s4
      clear s4
      have Qwant_4 := Lib.hid q4_0
      clear b4 b4' q4_0
      have lout : w2.heap.size < w4.heap.size := Qout_4.out.lt
      have cout0 : w4.cell? ⟨w2.heap.size, 0, none⟩ = some (.int .i64 0) := Qout_4.out.get 0 rfl
      have cout1 : w4.cell? ⟨w2.heap.size, 1, none⟩ = some (.slice A2 0 c2) := Qout_4.out.get 1 rfl
      have lwant : w3.heap.size < w4.heap.size := Qwant_4.out.lt
      have cwant0 : w4.cell? ⟨w3.heap.size, 0, none⟩ = some (.int .i64 0) := Qwant_4.out.get 0 rfl
      have cwant1 : w4.cell? ⟨w3.heap.size, 1, none⟩ = some (.slice A3 0 c3) := Qwant_4.out.get 1 rfl
      go_wp2_with fail
      refine (same_seen _ _ _ _ _ _ [] _ O2_4.out.sl O3_4.out.sl rfl (by simp)).mono ?_
      rintro e w5 ⟨rfl, b5⟩
      clear lout cout0 cout1 lwant cwant0 cwant1
      have O1_5 := Lib.hid (O1_4.out.below b5 (Nat.le_refl _))
      have Qs_5 := Lib.hid (Qs_4.out.below b5 Qs_4.out.lt)
      have O2_5 := Lib.hid (O2_4.out.below b5 (Nat.le_refl _))
      have Qout_5 := Lib.hid (Qout_4.out.below b5 Qout_4.out.lt)
      have O3_5 := Lib.hid (O3_4.out.below b5 (Nat.le_refl _))
      have Qwant_5 := Lib.hid (Qwant_4.out.below b5 Qwant_4.out.lt)
      have s5 := b5.size
      have B5 := Lib.hid (bstep B4.out b5 B4.out.size)
      have le5 : w4.heap.size ≤ w5.heap.size := by simpa using s5
      clear s5
      clear b5
      go_wp2
      go_ret
      exact ⟨rfl, B5.out⟩
end Go.Proofs.Ythmbapmakihmaaa
