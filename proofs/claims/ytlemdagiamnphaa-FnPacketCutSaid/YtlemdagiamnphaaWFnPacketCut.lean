/-
  The walk of 'FnPacketCut'. Condition: each code is a slice of bytes.
-/
import Derived.Test.YtlemdagiamnphaaPkR
import Derived.Test.YtlemdagiamnphaaFrame
namespace Go.Proofs.Ytlemdagiamnphaa
open Go.ChangeShapes Go.WideShapes Go.ChangeAt Go.RowKit
set_option linter.unusedVariables false
set_option linter.unusedSimpArgs false
set_option maxHeartbeats 1600000 in
set_option maxRecDepth 100000 in
theorem walkFnPacketCut (A : Option Addr) (n c : Nat) (w : World) (h : Bts w A n c) :
    Calls Try.prog 7 #[.slice A n c] w fun e w' => e = .returned (.bool true) ∧ Below w.heap.size w w' := by
  have hle := h.le
  have H := Lib.hid h; clear h
  by_cases hn : 1048576 < n
  · go_enter Try.func7, Try.ntmps7
    go_wp2
    go_ret
    exact ⟨rfl, Below.refl _ _⟩
  · go_enter Try.func7, Try.ntmps7
    go_wp2_with fail
    refine (draw_pack_get _ _ _ _ H.out).mono ?_
    rintro e w1 ⟨s, rfl, hs, b1⟩
    have s1 := b1.size
    have B1 := Lib.hid b1
    have le1 : w.heap.size ≤ w1.heap.size := by simpa using s1
    clear s1
    clear b1
    obtain ⟨f, t, gg, cs, k, hx⟩ : ∃ f t g cs k, gotten (bl s) = (f, t, g, cs, k) := ⟨_, _, _, _, _, rfl⟩
    have HX := Lib.hid hx
    have hlen := gotten_len hx
    obtain ⟨n1, hn1⟩ : ∃ n, n = cs.length := ⟨_, rfl⟩
    have HL := Lib.hid hn1.symm
    have hn4 : n1 ≤ 4 := by omega
    clear hx hlen hn1
    have IC := Lib.hid (fun w => (by rw [← HL.out]; exact ipack_get _ (by omega) _ _ _ _ _ HX.out w : Calls Try.prog 11 #[.string (s)] w (fun e w' => ∃ A c, e = .returned (.tuple #[.agg #[.int .i64 f, .int .i64 t, .int .i64 gg, .slice A n1 c], .int .i64 k]) ∧ Own w' w.heap.size 46 3 A n1 c (chks cs) ∧ Below w.heap.size w w')))
    have SC := Lib.hid (fun w => (by rw [← HL.out]; exact spack_get _ (by omega) _ _ _ _ _ HX.out w : Calls Try.prog 12 #[.string (s)] w (fun e w' => ∃ A c, e = .returned (.tuple #[.agg #[.int .i64 f, .int .i64 t, .int .i64 gg, .slice A n1 c], .int .i64 k]) ∧ Own w' w.heap.size 46 3 A n1 c (chks cs) ∧ Below w.heap.size w w')))
    go_wp2_with fail
    refine (IC.out _).mono ?_
    rintro e w2 ⟨A2, c2, rfl, o2, b2⟩
    have s2 := b2.size
    have B2 := Lib.hid (bstep B1.out b2 B1.out.size)
    have le2 : w1.heap.size ≤ w2.heap.size := by simpa using s2
    clear s2
    have Oi_2 := Lib.hid o2
    clear b2 o2
    go_wp2_with fail
    refine (SC.out _).mono ?_
    rintro e w3 ⟨A3, c3, rfl, o3, b3'⟩
    obtain ⟨q3_0, z3, b3⟩ := boxed b3'
    have Oi_3 := Lib.hid (Oi_2.out.below b3 (Nat.le_refl _))
    have s3 := b3.size
    have B3 := Lib.hid (bstep B2.out b3 B2.out.size)
    have le3 : w2.heap.size ≤ w3.heap.size := by simpa using s3
    clear s3
    have Qbi_3 := Lib.hid q3_0
    have Os_3 := Lib.hid o3
    clear b3 b3' q3_0 o3
    have lbi : w2.heap.size < w3.heap.size := Qbi_3.out.lt
    have cbi0 : w3.cell? ⟨w2.heap.size, 0, none⟩ = some (.int .i64 f) := Qbi_3.out.get 0 rfl
    have cbi1 : w3.cell? ⟨w2.heap.size, 1, none⟩ = some (.int .i64 t) := Qbi_3.out.get 1 rfl
    have cbi2 : w3.cell? ⟨w2.heap.size, 2, none⟩ = some (.int .i64 gg) := Qbi_3.out.get 2 rfl
    have cbi3 : w3.cell? ⟨w2.heap.size, 3, none⟩ = some (.slice A2 n1 c2) := Qbi_3.out.get 3 rfl
    go_wp2_with fail
    refine (same_pack _ _ _ _ _ _ _ _ cs _ ((Oi_3.out.sl.alloc (Nat.le_refl _) _).more (by simp)) ((Os_3.out.sl.alloc (Nat.le_refl _) _).more (by simp)) HL.out (by omega)).mono ?_
    rintro e w4 ⟨rfl, b4'⟩
    obtain ⟨q4_0, z4, b4⟩ := boxed b4'
    clear lbi cbi0 cbi1 cbi2 cbi3
    have Oi_4 := Lib.hid (Oi_3.out.below b4 (Nat.le_refl _))
    have Qbi_4 := Lib.hid (Qbi_3.out.below b4 Qbi_3.out.lt)
    have Os_4 := Lib.hid (Os_3.out.below b4 (Nat.le_refl _))
    have s4 := b4.size
    have B4 := Lib.hid (bstep B3.out b4 B3.out.size)
    have le4 : w3.heap.size ≤ w4.heap.size := by simpa using s4
    clear s4
    have Qbs_4 := Lib.hid q4_0
    clear b4 b4' q4_0
    have lbi : w2.heap.size < w4.heap.size := Qbi_4.out.lt
    have cbi0 : w4.cell? ⟨w2.heap.size, 0, none⟩ = some (.int .i64 f) := Qbi_4.out.get 0 rfl
    have cbi1 : w4.cell? ⟨w2.heap.size, 1, none⟩ = some (.int .i64 t) := Qbi_4.out.get 1 rfl
    have cbi2 : w4.cell? ⟨w2.heap.size, 2, none⟩ = some (.int .i64 gg) := Qbi_4.out.get 2 rfl
    have cbi3 : w4.cell? ⟨w2.heap.size, 3, none⟩ = some (.slice A2 n1 c2) := Qbi_4.out.get 3 rfl
    have lbs : w3.heap.size < w4.heap.size := Qbs_4.out.lt
    have cbs0 : w4.cell? ⟨w3.heap.size, 0, none⟩ = some (.int .i64 f) := Qbs_4.out.get 0 rfl
    have cbs1 : w4.cell? ⟨w3.heap.size, 1, none⟩ = some (.int .i64 t) := Qbs_4.out.get 1 rfl
    have cbs2 : w4.cell? ⟨w3.heap.size, 2, none⟩ = some (.int .i64 gg) := Qbs_4.out.get 2 rfl
    have cbs3 : w4.cell? ⟨w3.heap.size, 3, none⟩ = some (.slice A3 n1 c3) := Qbs_4.out.get 3 rfl
    by_cases hk : k = 0
    · subst hk
      obtain ⟨l16, l4⟩ := good_len (gotten_code HX.out).symm
      rw [bl_len] at l16 l4
      have X1 := Lib.hid (show (bl (s.extract 0 (s.size - 1))).length % 4 ≠ 0 from by rw [bl_len, ByteArray.size_extract]; omega)
      have X2 := Lib.hid (show (bl (s ++ ⟨#[0]⟩)).length % 4 ≠ 0 from by rw [bl_len, bsize]; show (s.size + 1) % 4 ≠ 0; omega)
      obtain ⟨f1, t1, gg1, cs1, k1, hx1⟩ : ∃ f t g cs k, gotten (bl (s.extract 0 (s.size - 1))) = (f, t, g, cs, k) := ⟨_, _, _, _, _, rfl⟩
      have hk1 : k1 ≠ 0 := by rw [gotten_code hx1]; exact cut_bad X1.out
      have K1 : (k1 != 0) = true := by simpa using hk1
      have HX1 := Lib.hid hx1
      obtain ⟨m1, hm1⟩ : ∃ n, n = cs1.length := ⟨_, rfl⟩
      have HM1 := Lib.hid hm1.symm
      clear hx1 hm1
      have D1 := Lib.hid (fun w => (by rw [← HM1.out]; exact ipack_get _ (by rw [ByteArray.size_extract]; omega) _ _ _ _ _ HX1.out w : Calls Try.prog 11 #[.string (s.extract 0 (s.size - 1))] w (fun e w' => ∃ A c, e = .returned (.tuple #[.agg #[.int .i64 f1, .int .i64 t1, .int .i64 gg1, .slice A m1 c], .int .i64 k1]) ∧ Own w' w.heap.size 46 3 A m1 c (chks cs1) ∧ Below w.heap.size w w')))
      obtain ⟨f2, t2, gg2, cs2, k2, hx2⟩ : ∃ f t g cs k, gotten (bl (s ++ ⟨#[0]⟩)) = (f, t, g, cs, k) := ⟨_, _, _, _, _, rfl⟩
      have hk2 : k2 ≠ 0 := by rw [gotten_code hx2]; exact cut_bad X2.out
      have K2 : (k2 != 0) = true := by simpa using hk2
      have HX2 := Lib.hid hx2
      obtain ⟨m2, hm2⟩ : ∃ n, n = cs2.length := ⟨_, rfl⟩
      have HM2 := Lib.hid hm2.symm
      clear hx2 hm2
      have D2 := Lib.hid (fun w => (by rw [← HM2.out]; exact ipack_get _ (by rw [bsize]; show s.size + 1 ≤ _; omega) _ _ _ _ _ HX2.out w : Calls Try.prog 11 #[.string (s ++ ⟨#[0]⟩)] w (fun e w' => ∃ A c, e = .returned (.tuple #[.agg #[.int .i64 f2, .int .i64 t2, .int .i64 gg2, .slice A m2 c], .int .i64 k2]) ∧ Own w' w.heap.size 46 3 A m2 c (chks cs2) ∧ Below w.heap.size w w')))
      have j1 : (0 : Int) ≤ (s.size : Int) - 1 := by omega
      have j2 : (s.size : Int) - 1 ≤ (s.size : Int) := by omega
      have j3 := IntWalk.i64_in ((s.size : Int) - 1) (by omega)
      have j4 : ((s.size : Int) - 1).toNat = s.size - 1 := by omega
      have hadd := fun w : World => run_string_add_sum (P := Try.prog) (w := w) s ⟨#[0]⟩ (by show s.size + 1 ≤ _; omega)
      clear X1 X2 hk1 hk2 l16 l4
      go_wp2_with fail
      refine (D1.out _).mono ?_
      rintro e w5 ⟨A5, c5, rfl, o5, b5⟩
      clear lbi cbi0 cbi1 cbi2 cbi3 lbs cbs0 cbs1 cbs2 cbs3
      have Oi_5 := Lib.hid (Oi_4.out.below b5 (Nat.le_refl _))
      have Qbi_5 := Lib.hid (Qbi_4.out.below b5 Qbi_4.out.lt)
      have Os_5 := Lib.hid (Os_4.out.below b5 (Nat.le_refl _))
      have Qbs_5 := Lib.hid (Qbs_4.out.below b5 Qbs_4.out.lt)
      have s5 := b5.size
      have B5 := Lib.hid (bstep B4.out b5 B4.out.size)
      have le5 : w4.heap.size ≤ w5.heap.size := by simpa using s5
      clear s5
      have O5_5 := Lib.hid o5
      clear b5 o5
      go_wp2_with fail
      refine (D2.out _).mono ?_
      rintro e w6 ⟨A6, c6, rfl, o6, b6'⟩
      obtain ⟨q6_0, z6, b6⟩ := boxed b6'
      have Oi_6 := Lib.hid (Oi_5.out.below b6 (Nat.le_refl _))
      have Qbi_6 := Lib.hid (Qbi_5.out.below b6 Qbi_5.out.lt)
      have Os_6 := Lib.hid (Os_5.out.below b6 (Nat.le_refl _))
      have Qbs_6 := Lib.hid (Qbs_5.out.below b6 Qbs_5.out.lt)
      have O5_6 := Lib.hid (O5_5.out.below b6 (Nat.le_refl _))
      have s6 := b6.size
      have B6 := Lib.hid (bstep B5.out b6 B5.out.size)
      have le6 : w5.heap.size ≤ w6.heap.size := by simpa using s6
      clear s6
      have Qb5_6 := Lib.hid q6_0
      have O6_6 := Lib.hid o6
      clear b6 b6' q6_0 o6
      go_wp2
      go_ret
      first | exact ⟨rfl, B6.out.alloc B6.out.size _⟩ | exact ⟨ret_bool (by rw [K1, K2]; rfl), B6.out.alloc B6.out.size _⟩
    · have e0 : (k == 0) = false := by simpa using hk
      go_wp2_with fail
      refine (same_pack _ _ _ _ _ _ _ _ cs _ Oi_4.out.sl Os_4.out.sl HL.out (by omega)).mono ?_
      rintro e w5 ⟨rfl, b5⟩
      clear lbi cbi0 cbi1 cbi2 cbi3 lbs cbs0 cbs1 cbs2 cbs3
      have Oi_5 := Lib.hid (Oi_4.out.below b5 (Nat.le_refl _))
      have Qbi_5 := Lib.hid (Qbi_4.out.below b5 Qbi_4.out.lt)
      have Os_5 := Lib.hid (Os_4.out.below b5 (Nat.le_refl _))
      have Qbs_5 := Lib.hid (Qbs_4.out.below b5 Qbs_4.out.lt)
      have s5 := b5.size
      have B5 := Lib.hid (bstep B4.out b5 B4.out.size)
      have le5 : w4.heap.size ≤ w5.heap.size := by simpa using s5
      clear s5
      clear b5
      go_wp2
      go_ret
      exact ⟨rfl, B5.out⟩
end Go.Proofs.Ytlemdagiamnphaa
