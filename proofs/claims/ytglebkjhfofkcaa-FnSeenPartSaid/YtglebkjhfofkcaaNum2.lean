/-
  More of serial numbers: differences, order, ranges. Conditions: those that each theorem bears.
-/
import Derived.Test.YtglebkjhfofkcaaNum
namespace Go.Proofs.Ytglebkjhfofkcaa
open Go.ChangeShapes Go.WideShapes Go.ChangeAt Go.RowKit
set_option linter.unusedVariables false

theorem sdiff_add (a b : Int) (ha : okB a = true) (hb : okB b = true) : sadd b (-a) = (b - a) % 65536 := by
  rw [sadd_of b _ hb, Int.sub_eq_add_neg]
theorem l3diff_any (a b : Int) (ha : okB a = true) (hb : okB b = true) (w : World) : Calls Try.prog 64 #[.int .i64 a, .int .i64 b] w fun e w' => e = .returned (.int .i64 (sdiff a b)) ∧ w = w' := by
  obtain ⟨a0, a1⟩ := okB_true ha
  obtain ⟨b0, b1⟩ := okB_true hb
  obtain ⟨r0, r1⟩ := sadd_range b (-a) hb
  have he := Lib.hid (sdiff_add a b ha hb)
  have hb' := Lib.hid hb
  clear ha hb
  by_cases h : 32768 < sadd b (-a)
  · go_enter Try.func64, Try.ntmps64
    go_wp2_with (go_at_call 61; refine (l3add_any _ _ hb'.out _).mono ?_; rintro e w' ⟨rfl, rfl⟩)
    go_ret
    refine ⟨ret_int ?_, rfl⟩
    rw [he.out] at h ⊢
    unfold sdiff
    rw [if_pos (by omega)]
  · go_enter Try.func64, Try.ntmps64
    go_wp2_with (go_at_call 61; refine (l3add_any _ _ hb'.out _).mono ?_; rintro e w' ⟨rfl, rfl⟩)
    go_ret
    refine ⟨ret_int ?_, rfl⟩
    rw [he.out] at h ⊢
    unfold sdiff
    rw [if_neg (by omega)]
theorem idiff_any (a b : Int) (w : World) : Calls Try.prog 46 #[.int .i64 a, .int .i64 b] w fun e w' => e = .returned (.int .i64 (sdiffX a b)) ∧ w = w' := by
  by_cases ha : okB a = true
  · by_cases hb : okB b = true
    · obtain ⟨a0, a1⟩ := okB_true ha
      obtain ⟨b0, b1⟩ := okB_true hb
      have e : sdiffX a b = sdiff a b := by unfold sdiffX; rw [ha, hb]; rfl
      rw [e]
      by_cases h : 32768 < (b - a + 65536) % 65536
      · go_enter Try.func46, Try.ntmps46
        go_wp2_with (go_at_call 59; refine (ok_any _ _).mono ?_; rintro e w' ⟨rfl, rfl⟩)
        go_ret
        refine ⟨ret_int ?_, rfl⟩
        unfold sdiff
        rw [if_pos (by omega)] <;> omega
      · go_enter Try.func46, Try.ntmps46
        go_wp2_with (go_at_call 59; refine (ok_any _ _).mono ?_; rintro e w' ⟨rfl, rfl⟩)
        go_ret
        refine ⟨ret_int ?_, rfl⟩
        unfold sdiff
        rw [if_neg (by omega)] <;> omega
    · have hb : okB b = false := by simpa using hb
      have e : sdiffX a b = -65536 := by unfold sdiffX; rw [ha, hb]; rfl
      rw [e]
      go_enter Try.func46, Try.ntmps46
      go_wp2_with (go_at_call 59; refine (ok_any _ _).mono ?_; rintro e w' ⟨rfl, rfl⟩)
      go_ret
      exact ⟨rfl, rfl⟩
  · have ha : okB a = false := by simpa using ha
    have e : sdiffX a b = -65536 := by unfold sdiffX; rw [ha]; rfl
    rw [e]
    go_enter Try.func46, Try.ntmps46
    go_wp2_with (go_at_call 59; refine (ok_any _ _).mono ?_; rintro e w' ⟨rfl, rfl⟩)
    go_ret
    exact ⟨rfl, rfl⟩
theorem idiff_ok (a b : Int) (ha : okB a = true) (hb : okB b = true) (w : World) : Calls Try.prog 46 #[.int .i64 a, .int .i64 b] w fun e w' => e = .returned (.int .i64 (sdiff a b)) ∧ w = w' :=
  (idiff_any a b w).mono fun _ _ ⟨he, hw⟩ => ⟨by rw [he]; unfold sdiffX; rw [ha, hb]; rfl, hw⟩
theorem iless_any (a b : Int) (w : World) : Calls Try.prog 53 #[.int .i64 a, .int .i64 b] w fun e w' => e = .returned (.bool (inB (sdiffX a b) 1 32767)) ∧ w = w' := by
  by_cases h : 1 ≤ sdiffX a b
  · by_cases h2 : sdiffX a b < 32768
    · rw [inB_mk (show 1 ≤ sdiffX a b ∧ sdiffX a b ≤ 32767 by omega)]
      go_enter Try.func53, Try.ntmps53
      go_wp2_with (go_at_call 46; refine (idiff_any _ _ _).mono ?_; rintro e w' ⟨rfl, rfl⟩)
      go_ret
      exact ⟨ret_bool (by simp), rfl⟩
    · rw [inB_no (show ¬ (1 ≤ sdiffX a b ∧ sdiffX a b ≤ 32767) by omega)]
      go_enter Try.func53, Try.ntmps53
      go_wp2_with (go_at_call 46; refine (idiff_any _ _ _).mono ?_; rintro e w' ⟨rfl, rfl⟩)
      go_ret
      exact ⟨ret_bool (by simpa using h2), rfl⟩
  · rw [inB_no (show ¬ (1 ≤ sdiffX a b ∧ sdiffX a b ≤ 32767) by omega)]
    go_enter Try.func53, Try.ntmps53
    go_wp2_with (go_at_call 46; refine (idiff_any _ _ _).mono ?_; rintro e w' ⟨rfl, rfl⟩)
    go_ret
    exact ⟨ret_bool (by simp), rfl⟩
theorem serial_in_self (n : Int) (w : World) : Calls Try.prog 45 #[.int .i64 n, .int .i64 n, .int .i64 1] w fun e w' => e = .returned (.bool (okB n)) ∧ w = w' := by
  have hb : inB 1 0 32768 = true := inB_mk (by omega)
  by_cases h : okB n = true
  · obtain ⟨n0, n1⟩ := okB_true h
    have hs : sadd n (-n) = 0 := by rw [sadd_of n _ h]; omega
    go_enter Try.func45, Try.ntmps45
    go_wp2_with (first | (go_at_call 60; refine (l3ok_any _ _).mono ?_; rintro e w' ⟨rfl, rfl⟩) | (go_at_call 69; refine (in_any _ _ _ _).mono ?_; rintro e w' ⟨rfl, rfl⟩) | (go_at_call 61; refine (l3add_any _ _ h _).mono ?_; rintro e w' ⟨rfl, rfl⟩))
    go_ret
    exact ⟨by rw [h]; rfl, rfl⟩
  · have h : okB n = false := by simpa using h
    go_enter Try.func45, Try.ntmps45
    go_wp2_with (go_at_call 60; refine (l3ok_any _ _).mono ?_; rintro e w' ⟨rfl, rfl⟩)
    go_ret
    exact ⟨by rw [h]; rfl, rfl⟩
end Go.Proofs.Ytglebkjhfofkcaa
