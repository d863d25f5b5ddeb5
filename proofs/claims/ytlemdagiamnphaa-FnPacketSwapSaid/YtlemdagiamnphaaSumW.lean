/-
  What the functions that sum a text up return. Condition: the text is not too long.
-/
import Derived.Test.YtlemdagiamnphaaSumP
import Derived.Test.YtlemdagiamnphaaNumR
namespace Go.Proofs.Ytlemdagiamnphaa
open Go.ChangeShapes Go.WideShapes Go.ChangeAt Go.RowKit
set_option linter.unusedVariables false
set_option linter.unusedSimpArgs false

theorem sum_step {l : List UInt8} {k : Nat} {c : UInt8} (h : l[k]? = some c) (a b : Nat) : sumGo a b (l.drop k) = sumGo ((a + c.toNat) % 65521) ((b + (a + c.toNat) % 65521) % 65521) (l.drop (k + 1)) := by
  obtain ⟨hk, hz⟩ := List.getElem?_eq_some_iff.1 h
  rw [List.drop_eq_getElem_cons hk, hz]
  rfl
theorem sum_end {l : List UInt8} {k : Nat} (h : l.length ≤ k) (a b : Nat) : sumGo a b (l.drop k) = (a, b) := by
  rw [List.drop_of_length_le h]
  rfl
set_option maxHeartbeats 1600000 in
theorem isum_on (s : ByteArray) (hs : s.size ≤ 1100100) (w : World) : Calls Try.prog 47 #[.int .i64 1, .int .i64 0, .string s] w (Quiet (.int .i64 (sumOf (bl s))) w) := by
  go_enter Try.func47, Try.ntmps47
  go_wp2
  go_loopw [0, 1, 7] (fun av bv i wr => ∃ (k x y m : Nat), k ≤ s.size ∧ i = .int .i64 k ∧ av = .int .i64 x ∧ bv = .int .i64 y ∧ x < 65521 ∧ y < 65521 ∧ Hid (sumGo 1 0 (bl s) = sumGo x y ((bl s).drop k)) ∧ wr = w.drewN m) (fun _ _ i _ => s.size - (intOf i).toNat)
  case atStart => exact ⟨0, 1, 0, 0, by omega, rfl, rfl, rfl, by omega, by omega, Lib.hid rfl, rfl⟩
  case round =>
    obtain ⟨k, x, y, m, hk, rfl, rfl, rfl, hx, hy, hS, rfl⟩ := hrel
    by_cases hlt : k < s.size
    · have h0 : (0 : Int) ≤ (k : Int) := by omega
      have h1 : (k : Int) < (s.size : Int) := by omega
      have HS := Lib.hid (hS.out.trans (sum_step (bl_get s k hlt) x y))
      obtain ⟨c, hc⟩ : ∃ c, (s[k]'hlt).toNat = c := ⟨_, rfl⟩
      have hcl : c < 256 := by rw [← hc]; exact UInt8.toNat_lt _
      rw [hc] at HS
      clear hS
      go_wp2
      go_roundw
      case rel => exact ⟨k + 1, (x + c) % 65521, (y + (x + c) % 65521) % 65521, m, by omega, by go_num, by go_num, by go_num, Nat.mod_lt _ (by omega), Nat.mod_lt _ (by omega), HS, rfl⟩
      case measure => simp [intOf]; omega
    · have HE := Lib.hid (hS.out.trans (sum_end (by rw [bl_len]; omega) x y))
      have q1 := IntWalk.i64_in ((y : Int) * 65536) (by omega)
      have q2 := IntWalk.i64_in ((y : Int) * 65536 + (x : Int)) (by omega)
      clear hS
      go_wp2
      go_ret
      exact ⟨ret_int (by unfold sumOf; rw [HE.out]; show _ = ((y * 65536 + x : Nat) : Int); omega), m, rfl⟩
theorem isum_text (s : ByteArray) (hs : s.size ≤ 1100100) (w : World) : Calls Try.prog 27 #[.string s] w (Quiet (.int .i64 (sumOf (bl s))) w) := by
  go_enter Try.func27, Try.ntmps27
  go_wp2_with fail
  refine (isum_on s hs _).mono ?_
  rintro e w1 ⟨rfl, m, rfl⟩
  go_wp2
  go_ret
  exact ⟨rfl, m, rfl⟩
set_option maxHeartbeats 1600000 in
theorem ssum_next (s : ByteArray) (hs : s.size ≤ 1100100) (w : World) : Calls Try.prog 46 #[.int .i64 1, .string s] w (Quiet (.int .i64 (sumOf (bl s))) w) := by
  go_enter Try.func46, Try.ntmps46
  go_wp2
  go_loopw [5, 6, 7] (fun av bv i wr => ∃ (k x y m : Nat), k ≤ s.size ∧ i = .int .i64 k ∧ av = .int .i64 x ∧ bv = .int .i64 y ∧ x < 65521 ∧ y < 65521 ∧ Hid (sumGo 1 0 (bl s) = sumGo x y ((bl s).drop k)) ∧ wr = w.drewN m) (fun _ _ i _ => s.size - (intOf i).toNat)
  case atStart => exact ⟨0, 1, 0, 0, by omega, rfl, rfl, rfl, by omega, by omega, Lib.hid rfl, rfl⟩
  case round =>
    obtain ⟨k, x, y, m, hk, rfl, rfl, rfl, hx, hy, hS, rfl⟩ := hrel
    by_cases hlt : k < s.size
    · have h0 : (0 : Int) ≤ (k : Int) := by omega
      have h1 : (k : Int) < (s.size : Int) := by omega
      have HS := Lib.hid (hS.out.trans (sum_step (bl_get s k hlt) x y))
      obtain ⟨c, hc⟩ : ∃ c, (s[k]'hlt).toNat = c := ⟨_, rfl⟩
      have hcl : c < 256 := by rw [← hc]; exact UInt8.toNat_lt _
      rw [hc] at HS
      clear hS
      go_wp2
      go_roundw
      case rel => exact ⟨k + 1, (x + c) % 65521, (y + (x + c) % 65521) % 65521, m, by omega, by go_num, by go_num, by go_num, Nat.mod_lt _ (by omega), Nat.mod_lt _ (by omega), HS, rfl⟩
      case measure => simp [intOf]; omega
    · have HE := Lib.hid (hS.out.trans (sum_end (by rw [bl_len]; omega) x y))
      have q1 := IntWalk.i64_in (65536 * (y : Int)) (by omega)
      have q2 := IntWalk.i64_in (65536 * (y : Int) + (x : Int)) (by omega)
      clear hS
      go_wp2
      go_ret
      exact ⟨ret_int (by unfold sumOf; rw [HE.out]; show _ = ((y * 65536 + x : Nat) : Int); omega), m, rfl⟩
end Go.Proofs.Ytlemdagiamnphaa
