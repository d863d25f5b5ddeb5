/-
  The walk of 'FnPacketSwap'. Condition: each code is a slice of bytes.
-/
import Derived.Test.YtlemdagiamnphaaPkR
import Derived.Test.YtlemdagiamnphaaFrame
import Derived.Deep.RegionWith
import Derived.BigQuiet
namespace Go.Proofs.Ytlemdagiamnphaa
open Go.ChangeShapes Go.WideShapes Go.ChangeAt Go.RowKit
set_option linter.unusedVariables false
set_option linter.unusedSimpArgs false
set_option maxHeartbeats 1600000 in
set_option maxRecDepth 100000 in
theorem walkFnPacketSwap (A : Option Addr) (n c : Nat) (A0 : Option Addr) (n0 c0 : Nat) (w : World) (h : Bts w A n c) (h0 : Bts w A0 n0 c0) :
    Calls Try.prog 9 #[.slice A n c, .slice A0 n0 c0] w fun e w' => e = .returned (.bool true) ∧ Below w.heap.size w w' := by
  have hle := h.le
  have hle0 := h0.le
  have H := Lib.hid h; clear h h0
  by_cases hn : 1048576 < n
  · go_enter Try.func9, Try.ntmps9
    go_wp2
    go_ret
    exact ⟨rfl, Below.refl _ _⟩
  by_cases hn0 : 1048576 < n0
  · go_enter Try.func9, Try.ntmps9
    go_wp2
    go_ret
    exact ⟨rfl, Below.refl _ _⟩
  · go_enter Try.func9, Try.ntmps9
    go_wp2_with fail
    refine (draw_pack_get _ _ _ _ H.out).mono ?_
    rintro e w1 ⟨s, rfl, hs, b1⟩
    have s1 := b1.size
    have B1 := Lib.hid b1
    have le1 : w.heap.size ≤ w1.heap.size := by simpa using s1
    clear s1
    clear b1
    obtain ⟨f, t, gg, cs, k, hx⟩ : ∃ f t g cs k, gotten (bl s) = (f, t, g, cs, k) := ⟨_, _, _, _, _, rfl⟩
    have HX := Lib.hid hx
    have hlen := gotten_len hx
    obtain ⟨n1, hn1⟩ : ∃ n, n = cs.length := ⟨_, rfl⟩
    have HL := Lib.hid hn1.symm
    have hn4 : n1 ≤ 4 := by omega
    clear hx hlen hn1
    have IC := Lib.hid (fun w => (by rw [← HL.out]; exact ipack_get _ (by omega) _ _ _ _ _ HX.out w : Calls Try.prog 11 #[.string (s)] w (fun e w' => ∃ A c, e = .returned (.tuple #[.agg #[.int .i64 f, .int .i64 t, .int .i64 gg, .slice A n1 c], .int .i64 k]) ∧ Own w' w.heap.size 46 3 A n1 c (chks cs) ∧ Below w.heap.size w w')))
    have SC := Lib.hid (fun w => (by rw [← HL.out]; exact spack_get _ (by omega) _ _ _ _ _ HX.out w : Calls Try.prog 12 #[.string (s)] w (fun e w' => ∃ A c, e = .returned (.tuple #[.agg #[.int .i64 f, .int .i64 t, .int .i64 gg, .slice A n1 c], .int .i64 k]) ∧ Own w' w.heap.size 46 3 A n1 c (chks cs) ∧ Below w.heap.size w w')))
    go_wp2_with fail
    refine (IC.out _).mono ?_
    rintro e w2 ⟨A2, c2, rfl, o2, b2⟩
    have s2 := b2.size
    have B2 := Lib.hid (bstep B1.out b2 B1.out.size)
    have le2 : w1.heap.size ≤ w2.heap.size := by simpa using s2
    clear s2
    have Oi_2 := Lib.hid o2
    clear b2 o2
    go_wp2_with fail
    refine (SC.out _).mono ?_
    rintro e w3 ⟨A3, c3, rfl, o3, b3'⟩
    obtain ⟨q3_0, z3, b3⟩ := boxed b3'
    have Oi_3 := Lib.hid (Oi_2.out.below b3 (Nat.le_refl _))
    have s3 := b3.size
    have B3 := Lib.hid (bstep B2.out b3 B2.out.size)
    have le3 : w2.heap.size ≤ w3.heap.size := by simpa using s3
    clear s3
    have Qbi_3 := Lib.hid q3_0
    have Os_3 := Lib.hid o3
    clear b3 b3' q3_0 o3
    have lbi : w2.heap.size < w3.heap.size := Qbi_3.out.lt
    have cbi0 : w3.cell? ⟨w2.heap.size, 0, none⟩ = some (.int .i64 f) := Qbi_3.out.get 0 rfl
    have cbi1 : w3.cell? ⟨w2.heap.size, 1, none⟩ = some (.int .i64 t) := Qbi_3.out.get 1 rfl
    have cbi2 : w3.cell? ⟨w2.heap.size, 2, none⟩ = some (.int .i64 gg) := Qbi_3.out.get 2 rfl
    have cbi3 : w3.cell? ⟨w2.heap.size, 3, none⟩ = some (.slice A2 n1 c2) := Qbi_3.out.get 3 rfl
    go_wp2_with fail
    refine (same_pack _ _ _ _ _ _ _ _ cs _ ((Oi_3.out.sl.alloc (Nat.le_refl _) _).more (by simp)) ((Os_3.out.sl.alloc (Nat.le_refl _) _).more (by simp)) HL.out (by omega)).mono ?_
    rintro e w4 ⟨rfl, b4'⟩
    obtain ⟨q4_0, z4, b4⟩ := boxed b4'
    clear lbi cbi0 cbi1 cbi2 cbi3
    have Oi_4 := Lib.hid (Oi_3.out.below b4 (Nat.le_refl _))
    have Qbi_4 := Lib.hid (Qbi_3.out.below b4 Qbi_3.out.lt)
    have Os_4 := Lib.hid (Os_3.out.below b4 (Nat.le_refl _))
    have s4 := b4.size
    have B4 := Lib.hid (bstep B3.out b4 B3.out.size)
    have le4 : w3.heap.size ≤ w4.heap.size := by simpa using s4
    clear s4
    have Qbs_4 := Lib.hid q4_0
    clear b4 b4' q4_0
    have lbi : w2.heap.size < w4.heap.size := Qbi_4.out.lt
    have cbi0 : w4.cell? ⟨w2.heap.size, 0, none⟩ = some (.int .i64 f) := Qbi_4.out.get 0 rfl
    have cbi1 : w4.cell? ⟨w2.heap.size, 1, none⟩ = some (.int .i64 t) := Qbi_4.out.get 1 rfl
    have cbi2 : w4.cell? ⟨w2.heap.size, 2, none⟩ = some (.int .i64 gg) := Qbi_4.out.get 2 rfl
    have cbi3 : w4.cell? ⟨w2.heap.size, 3, none⟩ = some (.slice A2 n1 c2) := Qbi_4.out.get 3 rfl
    have lbs : w3.heap.size < w4.heap.size := Qbs_4.out.lt
    have cbs0 : w4.cell? ⟨w3.heap.size, 0, none⟩ = some (.int .i64 f) := Qbs_4.out.get 0 rfl
    have cbs1 : w4.cell? ⟨w3.heap.size, 1, none⟩ = some (.int .i64 t) := Qbs_4.out.get 1 rfl
    have cbs2 : w4.cell? ⟨w3.heap.size, 2, none⟩ = some (.int .i64 gg) := Qbs_4.out.get 2 rfl
    have cbs3 : w4.cell? ⟨w3.heap.size, 3, none⟩ = some (.slice A3 n1 c3) := Qbs_4.out.get 3 rfl
    by_cases hk : k = 0
    · subst hk
      obtain ⟨l16, l4⟩ := good_len (gotten_code HX.out).symm
      rw [bl_len] at l16 l4
      obtain ⟨x, hx⟩ : ∃ x : Nat, x = 12 + n0 % (s.size - 13) := ⟨_, rfl⟩
      have hmod := Nat.mod_lt n0 (show 0 < s.size - 13 by omega)
      have hxs : x + 1 < s.size := by omega
      have hx12 : 12 ≤ x := by omega
      have hxe : (n0 : Int) % ((s.size : Int) - 13) = ((n0 % (s.size - 13) : Nat) : Int) := by rw [Int.natCast_emod]; congr 1; omega
      have hx2 : (12 : Int) + (n0 : Int) % ((s.size : Int) - 13) = (x : Int) := by rw [hxe]; omega
      have hwx := IntWalk.i64_in ((12 : Int) + (n0 : Int) % ((s.size : Int) - 13)) (by rw [hx2]; omega)
      have hxs0 : x < s.size := by omega
      obtain ⟨cc, hcc⟩ : ∃ c, c = s[x]'hxs0 := ⟨_, rfl⟩
      obtain ⟨dd, hdd⟩ : ∃ c, c = s[x + 1]'hxs := ⟨_, rfl⟩
      obtain ⟨sw1, sw2⟩ := swap_str hxs (c := cc) (d := dd) (by rw [hcc]; exact bl_get s x hxs0) (by rw [hdd]; exact bl_get s (x + 1) hxs)
      have hcode := (gotten_code HX.out).symm
      obtain ⟨K, hK⟩ : ∃ K, (s[x]'hxs0).toNat = K := ⟨_, rfl⟩
      obtain ⟨F, hF⟩ : ∃ F, (s[x + 1]'hxs).toNat = F := ⟨_, rfl⟩
      clear hx hmod hxe
      obtain ⟨f1, t1, gg1, cs1, k1, hx1'⟩ : ∃ f t g cs k, gotten (bl (s.extract 0 x ++ s.extract (x + 1) (x + 2) ++ s.extract x (x + 1) ++ s.extract (x + 2) s.size)) = (f, t, g, cs, k) := ⟨_, _, _, _, _, rfl⟩
      have HC := Lib.hid (show (K = F → k1 = 0) ∧ (K ≠ F → k1 = 2) from by
        rw [gotten_code hx1', sw2]
        refine ⟨fun e => ?_, fun e => ?_⟩
        · have e2 : cc = dd := UInt8.toNat_inj.1 (by rw [hcc, hdd, hK, hF]; exact e)
          rw [sw1, e2] at hcode
          rw [e2]
          exact hcode
        · rw [sw1] at hcode
          exact swap_seen hcode (by rw [List.length_take, bl_len]; omega) (fun e2 => e (by rw [← hK, ← hF, ← hcc, ← hdd, e2])))
      have HX1 := Lib.hid hx1'
      obtain ⟨m1, hm1⟩ : ∃ n, n = cs1.length := ⟨_, rfl⟩
      have HM1 := Lib.hid hm1.symm
      clear hx1' hm1 hcode sw1 sw2 hcc hdd
      have z1 : (s.extract 0 x).size = x := by rw [ByteArray.size_extract]; omega
      have z2 : (s.extract (x + 1) (x + 2)).size = 1 := by rw [ByteArray.size_extract]; omega
      have z3 : (s.extract x (x + 1)).size = 1 := by rw [ByteArray.size_extract]; omega
      have z4 : (s.extract (x + 2) s.size).size = s.size - (x + 2) := by rw [ByteArray.size_extract]; omega
      have z5 := bsize (s.extract 0 x) (s.extract (x + 1) (x + 2))
      have z6 := bsize (s.extract 0 x ++ s.extract (x + 1) (x + 2)) (s.extract x (x + 1))
      have z7 := bsize (s.extract 0 x ++ s.extract (x + 1) (x + 2) ++ s.extract x (x + 1)) (s.extract (x + 2) s.size)
      have D1 := Lib.hid (fun w => (by rw [← HM1.out]; exact ipack_get _ (by omega) _ _ _ _ _ HX1.out w : Calls Try.prog 11 #[.string (s.extract 0 x ++ s.extract (x + 1) (x + 2) ++ s.extract x (x + 1) ++ s.extract (x + 2) s.size)] w (fun e w' => ∃ A c, e = .returned (.tuple #[.agg #[.int .i64 f1, .int .i64 t1, .int .i64 gg1, .slice A m1 c], .int .i64 k1]) ∧ Own w' w.heap.size 46 3 A m1 c (chks cs1) ∧ Below w.heap.size w w')))
      have hA1 := fun w : World => run_string_add_sum (P := Try.prog) (w := w) (s.extract 0 x) (s.extract (x + 1) (x + 2)) (by omega)
      have hA2 := fun w : World => run_string_add_sum (P := Try.prog) (w := w) (s.extract 0 x ++ s.extract (x + 1) (x + 2)) (s.extract x (x + 1)) (by omega)
      have hA3 := fun w : World => run_string_add_sum (P := Try.prog) (w := w) (s.extract 0 x ++ s.extract (x + 1) (x + 2) ++ s.extract x (x + 1)) (s.extract (x + 2) s.size) (by omega)
      have hB0 : ¬ ((9223372036854775807 : Nat) < x + 1 + 1) := by omega
      have hB : ¬ ((9223372036854775807 : Nat) < x + 1 + 1 + (s.size - (x + 2))) := by omega
      have w1' := IntWalk.i64_in ((x : Int) + 1) (by omega)
      have w2' := IntWalk.i64_in ((x : Int) + 2) (by omega)
      have j0 : (0 : Int) ≤ (x : Int) := by omega
      have j1 : (0 : Int) ≤ (x : Int) + 1 := by omega
      have j2 : (x : Int) + 1 ≤ (x : Int) + 2 := by omega
      have j3 : (x : Int) ≤ (x : Int) + 1 := by omega
      have j4 : (x : Int) + 2 ≤ (s.size : Int) := by omega
      have j5 : (0 : Int) ≤ (x : Int) + 2 := by omega
      have j6 : (x : Int) ≤ (s.size : Int) := by omega
      have j7 : (x : Int) + 1 ≤ (s.size : Int) := by omega
      have j8 : ((x : Int) + 1).toNat = x + 1 := by omega
      have j9 : ((x : Int) + 2).toNat = x + 2 := by omega
      have i1 : (x : Int) < (s.size : Int) := by omega
      have i2 : (x : Int) + 1 < (s.size : Int) := by omega
      clear z5 z6 z7 l16 l4
      have hbw := B4.out.size
      go_wp2_with fail
      try rw [hx2]
      clear hx2 hwx
      go_region_with (first
        | (go_at_call 11; (with_reducible refine (D1.out (w4.drew)).mono ?_); rintro e w9 ⟨A9, c9, rfl, o9, b9⟩; have B9 := Lib.hid (bstep B4.out.drew b9 hbw); clear o9 b9)
        | (go_at_call 11; (with_reducible refine (D1.out ((w4.alloc (.cells #[.int .i64 0, .int .i64 0, .int .i64 0, .slice none 0 0] 26)).drew)).mono ?_); rintro e w9 ⟨A9, c9, rfl, o9, b9⟩; have Q9 := Lib.hid ((Blk.new w4 #[.int .i64 0, .int .i64 0, .int .i64 0, .slice none 0 0] 26).drew.below b9 (by simp)); have x0 : w9.cell? ⟨w4.heap.size, 0, none⟩ = some (.int .i64 0) := Q9.out.get 0 rfl; have xf0 := Q9.out.frozen 0; have x1 : w9.cell? ⟨w4.heap.size, 1, none⟩ = some (.int .i64 0) := Q9.out.get 1 rfl; have xf1 := Q9.out.frozen 1; have x2 : w9.cell? ⟨w4.heap.size, 2, none⟩ = some (.int .i64 0) := Q9.out.get 2 rfl; have xf2 := Q9.out.frozen 2; have x3 : w9.cell? ⟨w4.heap.size, 3, none⟩ = some (.slice none 0 0) := Q9.out.get 3 rfl; have xf3 := Q9.out.frozen 3; have B9 := Lib.hid (bstep (B4.out.alloc hbw (.cells #[.int .i64 0, .int .i64 0, .int .i64 0, .slice none 0 0] 26)).drew b9 (by simp; omega)); clear o9 b9))
      all_goals
        clear hA1 hA2 hA3 hB0 hB z1 z2 z3 z4
        by_cases hKF : K = F
        · obtain rfl := HC.out.1 hKF
          subst hKF
          clear HC
          go_wp2
          go_quiet (fail)
          go_wp2
          go_ret
          first | exact ⟨rfl, below_drewN (B9.out.alloc B9.out.size _) _⟩ | exact ⟨rfl, below_drewN ((((B9.out.setCell hbw _).setCell hbw _).setCell hbw _).setCell hbw _) _⟩ | exact ⟨ret_bool (by simp [*] <;> omega), below_drewN (B9.out.alloc B9.out.size _) _⟩ | exact ⟨ret_bool (by simp [*] <;> omega), below_drewN ((((B9.out.setCell hbw _).setCell hbw _).setCell hbw _).setCell hbw _) _⟩
        · obtain rfl := HC.out.2 hKF
          have e1 : ((K : Int) == (F : Int)) = false := by simp; omega
          have e2 : ¬ (K : Int) = (F : Int) := by omega
          clear HC hKF
          go_wp2
          go_quiet (fail)
          go_wp2
          go_ret
          first | exact ⟨rfl, below_drewN (B9.out.alloc B9.out.size _) _⟩ | exact ⟨rfl, below_drewN ((((B9.out.setCell hbw _).setCell hbw _).setCell hbw _).setCell hbw _) _⟩ | exact ⟨ret_bool (by simp [*] <;> omega), below_drewN (B9.out.alloc B9.out.size _) _⟩ | exact ⟨ret_bool (by simp [*] <;> omega), below_drewN ((((B9.out.setCell hbw _).setCell hbw _).setCell hbw _).setCell hbw _) _⟩
    · have e0 : (k == 0) = false := by simpa using hk
      go_wp2_with fail
      refine (same_pack _ _ _ _ _ _ _ _ cs _ Oi_4.out.sl Os_4.out.sl HL.out (by omega)).mono ?_
      rintro e w5 ⟨rfl, b5⟩
      clear lbi cbi0 cbi1 cbi2 cbi3 lbs cbs0 cbs1 cbs2 cbs3
      have Oi_5 := Lib.hid (Oi_4.out.below b5 (Nat.le_refl _))
      have Qbi_5 := Lib.hid (Qbi_4.out.below b5 Qbi_4.out.lt)
      have Os_5 := Lib.hid (Os_4.out.below b5 (Nat.le_refl _))
      have Qbs_5 := Lib.hid (Qbs_4.out.below b5 Qbs_4.out.lt)
      have s5 := b5.size
      have B5 := Lib.hid (bstep B4.out b5 B4.out.size)
      have le5 : w4.heap.size ≤ w5.heap.size := by simpa using s5
      clear s5
      clear b5
      go_wp2
      go_ret
      exact ⟨rfl, B5.out⟩
end Go.Proofs.Ytlemdagiamnphaa
