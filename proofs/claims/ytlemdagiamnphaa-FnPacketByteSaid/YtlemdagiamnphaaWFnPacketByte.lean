/-
  The walk of 'FnPacketByte'. Condition: each code is a slice of bytes.
-/
import Derived.Test.YtlemdagiamnphaaPkR
import Derived.Test.YtlemdagiamnphaaFrame
import Derived.Deep.RegionWith
namespace Go.Proofs.Ytlemdagiamnphaa
open Go.ChangeShapes Go.WideShapes Go.ChangeAt Go.RowKit
set_option linter.unusedVariables false
set_option linter.unusedSimpArgs false
theorem conv_one_at {w : World} {g : Nat} {t : TypeId} (z : Int) (h0 : 0 ≤ z) (h1 : z ≤ 255) (hq : Blk w g #[.int .u8 z] t) :
    (convert 22 9 (.slice (some ⟨g, 0, none⟩) 1 1)).run Try.prog w = .ok (.string (mk [UInt8.ofNat z.toNat])) w := by
  refine run_convert_bytes_back (P := Try.prog) _ 22 9 5 ⟨g, 0, none⟩ 1 [UInt8.ofNat z.toNat] Try.underlying22 Try.underlying5 Try.underlying9 (fun j hj => ?_)
  have hadd : (⟨g, 0, none⟩ : Addr).add j = ⟨g, 0 + j, none⟩ := by unfold Addr.add; split <;> simp_all
  rw [hadd, hq.cell, Nat.zero_add]
  have hj2 : j < 1 := hj
  obtain rfl : j = 0 := by omega
  show some _ = some (Value.int .u8 ((UInt8.ofNat z.toNat).toNat : Int))
  rw [show ((UInt8.ofNat z.toNat).toNat : Int) = z from by simp; omega]
  rfl
set_option maxHeartbeats 1600000 in
set_option maxRecDepth 100000 in
theorem walkFnPacketByte (A : Option Addr) (n c : Nat) (A0 : Option Addr) (n0 c0 : Nat) (w : World) (h : Bts w A n c) (h0 : Bts w A0 n0 c0) :
    Calls Try.prog 6 #[.slice A n c, .slice A0 n0 c0] w fun e w' => e = .returned (.bool true) ∧ Below w.heap.size w w' := by
  have hle := h.le
  have hle0 := h0.le
  have H := Lib.hid h; clear h h0
  by_cases hn : 1048576 < n
  · go_enter Try.func6, Try.ntmps6
    go_wp2
    go_ret
    exact ⟨rfl, Below.refl _ _⟩
  by_cases hn0 : 1048576 < n0
  · go_enter Try.func6, Try.ntmps6
    go_wp2
    go_ret
    exact ⟨rfl, Below.refl _ _⟩
  · go_enter Try.func6, Try.ntmps6
    go_wp2_with fail
    refine (draw_pack_get _ _ _ _ H.out).mono ?_
    rintro e w1 ⟨s, rfl, hs, b1⟩
    have s1 := b1.size
    have B1 := Lib.hid b1
    have le1 : w.heap.size ≤ w1.heap.size := by simpa using s1
    clear s1
    clear b1
    obtain ⟨f, t, gg, cs, k, hx⟩ : ∃ f t g cs k, gotten (bl s) = (f, t, g, cs, k) := ⟨_, _, _, _, _, rfl⟩
    have HX := Lib.hid hx
    have hlen := gotten_len hx
    obtain ⟨n1, hn1⟩ : ∃ n, n = cs.length := ⟨_, rfl⟩
    have HL := Lib.hid hn1.symm
    have hn4 : n1 ≤ 4 := by omega
    clear hx hlen hn1
    have IC := Lib.hid (fun w => (by rw [← HL.out]; exact ipack_get _ (by omega) _ _ _ _ _ HX.out w : Calls Try.prog 11 #[.string (s)] w (fun e w' => ∃ A c, e = .returned (.tuple #[.agg #[.int .i64 f, .int .i64 t, .int .i64 gg, .slice A n1 c], .int .i64 k]) ∧ Own w' w.heap.size 46 3 A n1 c (chks cs) ∧ Below w.heap.size w w')))
    have SC := Lib.hid (fun w => (by rw [← HL.out]; exact spack_get _ (by omega) _ _ _ _ _ HX.out w : Calls Try.prog 12 #[.string (s)] w (fun e w' => ∃ A c, e = .returned (.tuple #[.agg #[.int .i64 f, .int .i64 t, .int .i64 gg, .slice A n1 c], .int .i64 k]) ∧ Own w' w.heap.size 46 3 A n1 c (chks cs) ∧ Below w.heap.size w w')))
    go_wp2_with fail
    refine (IC.out _).mono ?_
    rintro e w2 ⟨A2, c2, rfl, o2, b2⟩
    have s2 := b2.size
    have B2 := Lib.hid (bstep B1.out b2 B1.out.size)
    have le2 : w1.heap.size ≤ w2.heap.size := by simpa using s2
    clear s2
    have Oi_2 := Lib.hid o2
    clear b2 o2
    go_wp2_with fail
    refine (SC.out _).mono ?_
    rintro e w3 ⟨A3, c3, rfl, o3, b3'⟩
    obtain ⟨q3_0, z3, b3⟩ := boxed b3'
    have Oi_3 := Lib.hid (Oi_2.out.below b3 (Nat.le_refl _))
    have s3 := b3.size
    have B3 := Lib.hid (bstep B2.out b3 B2.out.size)
    have le3 : w2.heap.size ≤ w3.heap.size := by simpa using s3
    clear s3
    have Qbi_3 := Lib.hid q3_0
    have Os_3 := Lib.hid o3
    clear b3 b3' q3_0 o3
    have lbi : w2.heap.size < w3.heap.size := Qbi_3.out.lt
    have cbi0 : w3.cell? ⟨w2.heap.size, 0, none⟩ = some (.int .i64 f) := Qbi_3.out.get 0 rfl
    have cbi1 : w3.cell? ⟨w2.heap.size, 1, none⟩ = some (.int .i64 t) := Qbi_3.out.get 1 rfl
    have cbi2 : w3.cell? ⟨w2.heap.size, 2, none⟩ = some (.int .i64 gg) := Qbi_3.out.get 2 rfl
    have cbi3 : w3.cell? ⟨w2.heap.size, 3, none⟩ = some (.slice A2 n1 c2) := Qbi_3.out.get 3 rfl
    go_wp2_with fail
    refine (same_pack _ _ _ _ _ _ _ _ cs _ ((Oi_3.out.sl.alloc (Nat.le_refl _) _).more (by simp)) ((Os_3.out.sl.alloc (Nat.le_refl _) _).more (by simp)) HL.out (by omega)).mono ?_
    rintro e w4 ⟨rfl, b4'⟩
    obtain ⟨q4_0, z4, b4⟩ := boxed b4'
    clear lbi cbi0 cbi1 cbi2 cbi3
    have Oi_4 := Lib.hid (Oi_3.out.below b4 (Nat.le_refl _))
    have Qbi_4 := Lib.hid (Qbi_3.out.below b4 Qbi_3.out.lt)
    have Os_4 := Lib.hid (Os_3.out.below b4 (Nat.le_refl _))
    have s4 := b4.size
    have B4 := Lib.hid (bstep B3.out b4 B3.out.size)
    have le4 : w3.heap.size ≤ w4.heap.size := by simpa using s4
    clear s4
    have Qbs_4 := Lib.hid q4_0
    clear b4 b4' q4_0
    have lbi : w2.heap.size < w4.heap.size := Qbi_4.out.lt
    have cbi0 : w4.cell? ⟨w2.heap.size, 0, none⟩ = some (.int .i64 f) := Qbi_4.out.get 0 rfl
    have cbi1 : w4.cell? ⟨w2.heap.size, 1, none⟩ = some (.int .i64 t) := Qbi_4.out.get 1 rfl
    have cbi2 : w4.cell? ⟨w2.heap.size, 2, none⟩ = some (.int .i64 gg) := Qbi_4.out.get 2 rfl
    have cbi3 : w4.cell? ⟨w2.heap.size, 3, none⟩ = some (.slice A2 n1 c2) := Qbi_4.out.get 3 rfl
    have lbs : w3.heap.size < w4.heap.size := Qbs_4.out.lt
    have cbs0 : w4.cell? ⟨w3.heap.size, 0, none⟩ = some (.int .i64 f) := Qbs_4.out.get 0 rfl
    have cbs1 : w4.cell? ⟨w3.heap.size, 1, none⟩ = some (.int .i64 t) := Qbs_4.out.get 1 rfl
    have cbs2 : w4.cell? ⟨w3.heap.size, 2, none⟩ = some (.int .i64 gg) := Qbs_4.out.get 2 rfl
    have cbs3 : w4.cell? ⟨w3.heap.size, 3, none⟩ = some (.slice A3 n1 c3) := Qbs_4.out.get 3 rfl
    by_cases hk : k = 0
    · subst hk
      obtain ⟨l16, l4⟩ := good_len (gotten_code HX.out).symm
      rw [bl_len] at l16 l4
      obtain ⟨x, hx⟩ : ∃ x : Nat, x = n0 % s.size := ⟨_, rfl⟩
      have hxs : x < s.size := by rw [hx]; exact Nat.mod_lt _ (by omega)
      have hx2 : (n0 : Int) % (s.size : Int) = (x : Int) := by rw [hx]; exact (Int.natCast_emod n0 s.size).symm
      have hx0 : (0 : Int) ≤ (x : Int) := by omega
      have hx1 : (x : Int) < (s.size : Int) := by omega
      obtain ⟨K, hK⟩ : ∃ K, (s[x]'hxs).toNat = K := ⟨_, rfl⟩
      have hKl : K < 256 := by rw [← hK]; exact UInt8.toNat_lt _
      obtain ⟨Z, hZ⟩ : ∃ Z, Z = (K + 1) % 256 := ⟨_, rfl⟩
      have hZl : Z < 256 := by rw [hZ]; exact Nat.mod_lt _ (by omega)
      have hwu : IntKind.u8.wrap ((K : Int) + 1) = (Z : Int) := by rw [IntKind.wrap_u8, hZ]; omega
      have hcode := Lib.hid (byte_seen (gotten_code HX.out).symm x (by rw [bl_len]; exact hxs) (UInt8.ofNat Z) (by
        have hg := bl_get s x hxs
        obtain ⟨_, e1⟩ := List.getElem?_eq_some_iff.1 hg
        rw [e1]
        intro e
        have := congrArg UInt8.toNat e
        rw [hK] at this
        simp at this
        omega))
      have hcv := fun w => conv_one (Z : Int) (by omega) (by omega) w
      rw [Int.toNat_natCast] at hcv
      clear hx hZ
      obtain ⟨f1, t1, gg1, cs1, k1, hx1'⟩ : ∃ f t g cs k, gotten (bl (s.extract 0 x ++ mk [UInt8.ofNat Z] ++ s.extract (x + 1) s.size)) = (f, t, g, cs, k) := ⟨_, _, _, _, _, rfl⟩
      have hk1 : k1 = 2 := by rw [gotten_code hx1', set_str hxs]; exact hcode.out
      subst hk1
      have HX1 := Lib.hid hx1'
      obtain ⟨m1, hm1⟩ : ∃ n, n = cs1.length := ⟨_, rfl⟩
      have HM1 := Lib.hid hm1.symm
      clear hx1' hm1 hcode
      have z1 : (s.extract 0 x).size = x := by rw [ByteArray.size_extract]; omega
      have z2 : (s.extract (x + 1) s.size).size = s.size - (x + 1) := by rw [ByteArray.size_extract]; omega
      have z3 : (mk [UInt8.ofNat Z]).size = 1 := rfl
      have z4 := bsize (s.extract 0 x) (mk [UInt8.ofNat Z])
      have z5 := bsize (s.extract 0 x ++ mk [UInt8.ofNat Z]) (s.extract (x + 1) s.size)
      have D1 := Lib.hid (fun w => (by rw [← HM1.out]; exact ipack_get _ (by omega) _ _ _ _ _ HX1.out w : Calls Try.prog 11 #[.string (s.extract 0 x ++ mk [UInt8.ofNat Z] ++ s.extract (x + 1) s.size)] w (fun e w' => ∃ A c, e = .returned (.tuple #[.agg #[.int .i64 f1, .int .i64 t1, .int .i64 gg1, .slice A m1 c], .int .i64 2]) ∧ Own w' w.heap.size 46 3 A m1 c (chks cs1) ∧ Below w.heap.size w w')))
      have hA1 := fun w : World => run_string_add_sum (P := Try.prog) (w := w) (s.extract 0 x) (mk [UInt8.ofNat Z]) (by omega)
      have hA2 := fun w : World => run_string_add_sum (P := Try.prog) (w := w) (s.extract 0 x ++ mk [UInt8.ofNat Z]) (s.extract (x + 1) s.size) (by omega)
      have hB : ¬ ((9223372036854775807 : Nat) < x + 1 + (s.size - (x + 1))) := by omega
      have w1' := IntWalk.i64_in ((x : Int) + 1) (by omega)
      have j1 : (0 : Int) ≤ (x : Int) + 1 := by omega
      have j2 : (x : Int) + 1 ≤ (s.size : Int) := by omega
      have j3 : ((x : Int) + 1).toNat = x + 1 := by omega
      have j4 : (x : Int) ≤ (s.size : Int) := by omega
      clear z4 z5 l16 l4
      have hbw := B4.out.size
      have hcvA := conv_one_at (w := (w4.alloc (.cells #[.int .u8 (Z : Int)] 5)).drew) (Z : Int) (by omega) (by omega) (Blk.new w4 #[.int .u8 (Z : Int)] 5).drew
      have hcvB := conv_one_at (w := ((w4.alloc (.cells #[.int .i64 0, .int .i64 0, .int .i64 0, .slice none 0 0] 26)).alloc (.cells #[.int .u8 (Z : Int)] 5)).drew) (g := w4.heap.size + 1) (t := 5) (Z : Int) (by omega) (by omega) (by have := (Blk.new (w4.alloc (.cells #[.int .i64 0, .int .i64 0, .int .i64 0, .slice none 0 0] 26)) #[.int .u8 (Z : Int)] 5).drew; simpa using this)
      have hcvC := conv_one_at (w := ((w4.alloc (.cells #[.int .u8 (Z : Int)] 5)).alloc (.cells #[.int .i64 0, .int .i64 0, .int .i64 0, .slice none 0 0] 26)).drew) (g := w4.heap.size) (t := 5) (Z : Int) (by omega) (by omega) ((Blk.new w4 #[.int .u8 (Z : Int)] 5).alloc _).drew
      rw [Int.toNat_natCast] at hcvA hcvB hcvC
      go_wp2_with fail
      try rw [hx2]
      clear hx2
      go_region_with (first
        | (go_at_call 11; (with_reducible refine (D1.out ((w4.alloc (.cells #[.int .u8 (Z : Int)] 5)).drew)).mono ?_); rintro e w9 ⟨A9, c9, rfl, o9, b9⟩; have B9 := Lib.hid (bstep (B4.out.alloc hbw (.cells #[.int .u8 (Z : Int)] 5)).drew b9 (by simp; omega)); clear o9 b9)
        | (go_at_call 11; (with_reducible refine (D1.out (((w4.alloc (.cells #[.int .i64 0, .int .i64 0, .int .i64 0, .slice none 0 0] 26)).alloc (.cells #[.int .u8 (Z : Int)] 5)).drew)).mono ?_); rintro e w9 ⟨A9, c9, rfl, o9, b9⟩; have Q9 := Lib.hid (((Blk.new w4 #[.int .i64 0, .int .i64 0, .int .i64 0, .slice none 0 0] 26).alloc (.cells #[.int .u8 (Z : Int)] 5)).drew.below b9 (by simp; omega)); have x0 : w9.cell? ⟨w4.heap.size, 0, none⟩ = some (.int .i64 0) := Q9.out.get 0 rfl; have xf0 := Q9.out.frozen 0; have x1 : w9.cell? ⟨w4.heap.size, 1, none⟩ = some (.int .i64 0) := Q9.out.get 1 rfl; have xf1 := Q9.out.frozen 1; have x2 : w9.cell? ⟨w4.heap.size, 2, none⟩ = some (.int .i64 0) := Q9.out.get 2 rfl; have xf2 := Q9.out.frozen 2; have x3 : w9.cell? ⟨w4.heap.size, 3, none⟩ = some (.slice none 0 0) := Q9.out.get 3 rfl; have xf3 := Q9.out.frozen 3; have B9 := Lib.hid (bstep ((B4.out.alloc hbw (.cells #[.int .i64 0, .int .i64 0, .int .i64 0, .slice none 0 0] 26)).alloc (by simp; omega) (.cells #[.int .u8 (Z : Int)] 5)).drew b9 (by simp; omega)); clear o9 b9)
        | (go_at_call 11; (with_reducible refine (D1.out (((w4.alloc (.cells #[.int .u8 (Z : Int)] 5)).alloc (.cells #[.int .i64 0, .int .i64 0, .int .i64 0, .slice none 0 0] 26)).drew)).mono ?_); rintro e w9 ⟨A9, c9, rfl, o9, b9⟩; have Q9 := Lib.hid (show Blk w9 (w4.heap.size + 1) #[.int .i64 0, .int .i64 0, .int .i64 0, .slice none 0 0] 26 from by have := (Blk.new (w4.alloc (.cells #[.int .u8 (Z : Int)] 5)) #[.int .i64 0, .int .i64 0, .int .i64 0, .slice none 0 0] 26).drew.below b9 (by simp); simpa using this); have x0 : w9.cell? ⟨w4.heap.size + 1, 0, none⟩ = some (.int .i64 0) := Q9.out.get 0 rfl; have xf0 := Q9.out.frozen 0; have x1 : w9.cell? ⟨w4.heap.size + 1, 1, none⟩ = some (.int .i64 0) := Q9.out.get 1 rfl; have xf1 := Q9.out.frozen 1; have x2 : w9.cell? ⟨w4.heap.size + 1, 2, none⟩ = some (.int .i64 0) := Q9.out.get 2 rfl; have xf2 := Q9.out.frozen 2; have x3 : w9.cell? ⟨w4.heap.size + 1, 3, none⟩ = some (.slice none 0 0) := Q9.out.get 3 rfl; have xf3 := Q9.out.frozen 3; have B9 := Lib.hid (bstep ((B4.out.alloc hbw (.cells #[.int .u8 (Z : Int)] 5)).alloc (by simp; omega) (.cells #[.int .i64 0, .int .i64 0, .int .i64 0, .slice none 0 0] 26)).drew b9 (by simp; omega)); clear o9 b9))
      all_goals
        go_wp2
        go_ret
        first | exact ⟨rfl, B9.out.alloc B9.out.size _⟩ | exact ⟨rfl, (((B9.out.setCell hbw _).setCell hbw _).setCell hbw _).setCell hbw _⟩ | exact ⟨rfl, (((B9.out.setCell (Nat.le_succ_of_le hbw) _).setCell (Nat.le_succ_of_le hbw) _).setCell (Nat.le_succ_of_le hbw) _).setCell (Nat.le_succ_of_le hbw) _⟩
    · have e0 : (k == 0) = false := by simpa using hk
      go_wp2_with fail
      refine (same_pack _ _ _ _ _ _ _ _ cs _ Oi_4.out.sl Os_4.out.sl HL.out (by omega)).mono ?_
      rintro e w5 ⟨rfl, b5⟩
      clear lbi cbi0 cbi1 cbi2 cbi3 lbs cbs0 cbs1 cbs2 cbs3
      have Oi_5 := Lib.hid (Oi_4.out.below b5 (Nat.le_refl _))
      have Qbi_5 := Lib.hid (Qbi_4.out.below b5 Qbi_4.out.lt)
      have Os_5 := Lib.hid (Os_4.out.below b5 (Nat.le_refl _))
      have Qbs_5 := Lib.hid (Qbs_4.out.below b5 Qbs_4.out.lt)
      have s5 := b5.size
      have B5 := Lib.hid (bstep B4.out b5 B4.out.size)
      have le5 : w4.heap.size ≤ w5.heap.size := by simpa using s5
      clear s5
      clear b5
      go_wp2
      go_ret
      exact ⟨rfl, B5.out⟩
end Go.Proofs.Ytlemdagiamnphaa
