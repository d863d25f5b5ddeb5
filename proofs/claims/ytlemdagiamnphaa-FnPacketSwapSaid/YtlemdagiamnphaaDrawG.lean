/-
  What the spoiling of a text returns. Condition: the reader can be read; the text is not too long.
-/
import Derived.Test.YtlemdagiamnphaaDrawC
import Derived.Test.YtlemdagiamnphaaCapM
import Derived.BigQuiet
import Derived.Deep.RegionHeld3
namespace Go.Proofs.Ytlemdagiamnphaa
open Go.ChangeShapes Go.WideShapes Go.ChangeAt Go.RowKit
set_option linter.unusedVariables false

theorem ba_some {s : ByteArray} (h : 0 < s.size) : s.toList.isEmpty = false := by
  rw [bl_toList]
  rw [← bl_len] at h
  cases e : bl s with
  | nil => rw [e] at h; exact absurd h (by simp)
  | cons a l => rfl
theorem ba_none {s : ByteArray} (h : s.size = 0) : s.toList.isEmpty = true := by
  rw [bl_toList]
  rw [← bl_len] at h
  rw [List.eq_nil_of_length_eq_zero h]
  rfl
set_option maxHeartbeats 1600000 in
theorem spoil_any (g : Nat) (w : World) (L : Nat) (s : ByteArray) (hr : RdB w g L) (hL : L ≤ 800000) (hs : s.size ≤ 100000) : Calls Try.prog 21 #[.pointer (some ⟨g, 0, none⟩), .string s] w (BytesP (s.size + 1) g (L + 4) w) := by
  by_cases h0 : s.size = 0
  · have hem := ba_none h0
    go_enter Try.func21, Try.ntmps21
    go_wp2
    go_ret
    exact ⟨s, rfl, by omega, hr.mono (by omega), World.grownBy.refl w _⟩
  · have hem := ba_some (s := s) (by omega)
    go_enter Try.func21, Try.ntmps21
    go_wp2_with fail
    refine (pick_pos _ _ _ _ hr (by omega) (by omega)).mono ?_
    rintro e w1 ⟨k, rfl, k0, k1, r1, g1, s1⟩
    have G1 := Lib.hid g1
    clear g1 s1
    by_cases hk : 0 < k
    · go_wp2
      go_ret
      exact ⟨s, rfl, by omega, r1.mono (by omega), G1.out⟩
    · obtain rfl : k = 0 := by omega
      go_wp2_with fail
      refine (pick_pos _ _ _ _ r1 (by omega) (by omega)).mono ?_
      rintro e w2 ⟨j, rfl, j0, j1, r2, g2, s2⟩
      obtain ⟨j, rfl⟩ := Int.eq_ofNat_of_zero_le j0
      have G2 := Lib.hid (gb_trans G1.out g2 (fun k hk => .inl hk))
      clear g2 s2
      have hjs : j < s.size := by omega
      have hb1 : (j : Int) ≤ (s.size : Int) := by omega
      have hb2 : (0 : Int) ≤ (j : Int) + 1 := by omega
      have hb3 : (j : Int) + 1 ≤ (s.size : Int) := by omega
      have hw := IntWalk.i64_in ((j : Int) + 1) (by omega)
      have z1 : (s.extract 0 j).size = j := by rw [ByteArray.size_extract]; omega
      have z2 : (s.extract ((j : Int) + 1).toNat s.size).size = s.size - (j + 1) := by rw [ByteArray.size_extract]; omega
      have z3 : (s.extract (j + 1) s.size).size = s.size - (j + 1) := by rw [ByteArray.size_extract]; omega
      have Z := Lib.hid (show (s.extract 0 j).size = j ∧ (s.extract ((j : Int) + 1).toNat s.size).size = s.size - (j + 1) ∧ (s.extract (j + 1) s.size).size = s.size - (j + 1) from ⟨z1, z2, z3⟩)
      clear z3
      go_wp2_with fail
      refine (pick_pos _ _ _ _ r2 (by omega) (by omega)).mono ?_
      rintro e w3 ⟨m, rfl, m0, m1, r3, g3, s3⟩
      have G3 := Lib.hid (gb_trans G2.out g3 (fun k hk => .inl hk))
      clear g3 s3
      by_cases hm0 : m = 0
      · subst hm0
        go_wp2
        go_ret
        exact ⟨s.extract 0 j, rfl, by omega, r3.mono (by omega), G3.out⟩
      · by_cases hm1 : m = 1
        · subst hm1
          have hadd := fun w : World => run_string_add_sum (P := Try.prog) (w := w) s ⟨#[0]⟩ (by show s.size + 1 ≤ _; omega)
          go_wp2
          go_ret
          exact ⟨s ++ ⟨#[0]⟩, rfl, by rw [ByteArray.size_append]; exact Nat.le_refl _, r3.mono (by omega), G3.out⟩
        · by_cases hm2 : m = 2
          · subst hm2
            have hadd := fun w : World => run_string_add_sum (P := Try.prog) (w := w) (s.extract 0 j) (s.extract ((j : Int) + 1).toNat s.size) (by rw [z1, z2]; omega)
            go_wp2
            go_quiet (fail)
            go_wp2
            go_ret
            exact ⟨_, rfl, by obtain ⟨y1, y2, y3⟩ := Z.out; first | (rw [ByteArray.size_append, y1, y2]; omega) | (rw [ByteArray.size_append, y1, y3]; omega), r3.mono (by omega), gb_drewN G3.out _⟩
          · have e0 : (m == 0) = false := by simpa using hm0
            have e1 : (m == 1) = false := by simpa using hm1
            have e2 : (m == 2) = false := by simpa using hm2
            go_wp2
            go_region_with
              (first | (go_at_call 23; refine (pick_pos _ _ _ _ r3.drew (by omega) (by omega)).mono ?_; rintro e w4 ⟨d, rfl, d0, d1, r4, g4, s4⟩; have hwu := IntWalk.u8_in d ⟨d0, by omega⟩; have hcv := fun w => conv_one d d0 (by omega) w; have hadd := fun w : World => run_string_add_sum (P := Try.prog) (w := w) (s.extract 0 j) (mk [UInt8.ofNat d.toNat]) (by rw [z1]; show j + 1 ≤ _; omega); have hadd2 := fun w : World => run_string_add_sum (P := Try.prog) (w := w) (s.extract 0 j ++ mk [UInt8.ofNat d.toNat]) (s.extract ((j : Int) + 1).toNat s.size) (by rw [ByteArray.size_append, z1, z2]; show j + 1 + _ ≤ _; omega); have hmk : (mk [UInt8.ofNat d.toNat]).size = 1 := rfl; have hA : ¬ ((9223372036854775807 : Nat) < (s.extract 0 j).size + (mk [UInt8.ofNat d.toNat]).size + (s.extract ((j : Int) + 1).toNat s.size).size) := (by rw [z1, z2, hmk]; omega); have hB : ¬ ((9223372036854775807 : Nat) < j + 1 + (s.size - (j + 1))) := (by omega); have hC : ¬ ((9223372036854775807 : Nat) < (s.extract 0 j).size + 1 + (s.extract ((j : Int) + 1).toNat s.size).size) := (by rw [z1, z2]; omega); have G4 := Lib.hid (gb_trans (gb_drew G3.out) g4 (fun k hk => .inl hk)); clear g4 s4))
            all_goals
              go_wp2
              go_ret
              exact ⟨_, rfl, by obtain ⟨y1, y2, y3⟩ := Z.out; first | (rw [ByteArray.size_append, ByteArray.size_append, y1, y2]; show j + 1 + _ ≤ _; omega) | (rw [ByteArray.size_append, ByteArray.size_append, y1, y3]; show j + 1 + _ ≤ _; omega), (r4.alloc _).mono (by omega), gb_alloc G4.out _⟩
end Go.Proofs.Ytlemdagiamnphaa
