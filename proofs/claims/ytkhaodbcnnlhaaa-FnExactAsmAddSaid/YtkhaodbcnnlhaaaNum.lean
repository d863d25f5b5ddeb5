/-
  Numbers: what the functions on ranges and serial numbers return, in the program and in the reference. Conditions: those that each theorem bears.
-/
import Derived.Test.YtkhaodbcnnlhaaaRows
import Derived.Test.YtkhaodbcnnlhaaaBase
namespace Go.Proofs.Ytkhaodbcnnlhaaa
open Go.ChangeShapes Go.WideShapes Go.ChangeAt Go.RowKit
set_option linter.unusedVariables false

theorem ret_int {k : IntKind} {a b : Int} (h : a = b) : Ending.returned (.int k a) = .returned (.int k b) := by rw [h]
theorem ret_bool {a b : Bool} (h : a = b) : Ending.returned (.bool a) = .returned (.bool b) := by rw [h]

/-! ### Plain -/
def inB (n lo hi : Int) : Bool := decide (lo ≤ n ∧ n ≤ hi)
def okB (n : Int) : Bool := decide (0 ≤ n ∧ n < 65536)
def sadd (a n : Int) : Int := if okB a then (a + n) % 65536 else -1
def sdiff (a b : Int) : Int := if (b - a) % 65536 > 32768 then (b - a) % 65536 - 65536 else (b - a) % 65536
def sdiffX (a b : Int) : Int := if okB a && okB b then sdiff a b else -65536
theorem inB_true {n lo hi : Int} (h : inB n lo hi = true) : lo ≤ n ∧ n ≤ hi := of_decide_eq_true h
theorem inB_false {n lo hi : Int} (h : inB n lo hi = false) : ¬(lo ≤ n ∧ n ≤ hi) := of_decide_eq_false h
theorem inB_mk {n lo hi : Int} (h : lo ≤ n ∧ n ≤ hi) : inB n lo hi = true := decide_eq_true h
theorem inB_no {n lo hi : Int} (h : ¬(lo ≤ n ∧ n ≤ hi)) : inB n lo hi = false := decide_eq_false h
theorem okB_true {n : Int} (h : okB n = true) : 0 ≤ n ∧ n < 65536 := of_decide_eq_true h
theorem okB_false {n : Int} (h : okB n = false) : ¬(0 ≤ n ∧ n < 65536) := of_decide_eq_false h
theorem okB_mk {n : Int} (h : 0 ≤ n ∧ n < 65536) : okB n = true := decide_eq_true h
theorem okB_no {n : Int} (h : ¬(0 ≤ n ∧ n < 65536)) : okB n = false := decide_eq_false h
theorem okB_in (n : Int) : inB n 0 65535 = okB n := by unfold inB okB; congr 1; simp; omega
theorem tmod_bd (n : Int) : -65536 < n.tmod 65536 ∧ n.tmod 65536 < 65536 := by
  have h := Int.tmod_lt_of_pos n (show (0 : Int) < 65536 by omega)
  have h2 := Int.lt_tmod_of_pos n (show (0 : Int) < 65536 by omega)
  omega
theorem tmod_eq (n : Int) : ∃ q : Int, n.tmod 65536 = n - 65536 * q := ⟨n.tdiv 65536, Int.tmod_def n 65536⟩
theorem sadd_range (a n : Int) (h : okB a = true) : 0 ≤ sadd a n ∧ sadd a n < 65536 := by unfold sadd; rw [if_pos h]; omega
theorem sadd_of (a n : Int) (h : okB a = true) : sadd a n = (a + n) % 65536 := by unfold sadd; rw [if_pos h]
theorem sdiff_range (a b : Int) : -32768 < sdiff a b ∧ sdiff a b ≤ 32768 := by unfold sdiff; split <;> omega

/-! ### l6In, l3Ok, serialOk -/
theorem in_any (n lo hi : Int) (w : World) : Calls Try.prog 55 #[.int .i64 n, .int .i64 lo, .int .i64 hi] w fun e w' => e = .returned (.bool (inB n lo hi)) ∧ w = w' := by
  by_cases h1 : lo ≤ n
  · by_cases h2 : n ≤ hi
    all_goals
      go_enter Try.func55, Try.ntmps55
      go_wp2
      go_ret
      exact ⟨ret_bool (by unfold inB; simp; omega), rfl⟩
  · go_enter Try.func55, Try.ntmps55
    go_wp2
    go_ret
    exact ⟨ret_bool (by unfold inB; simp; omega), rfl⟩
theorem l3ok_any (n : Int) (w : World) : Calls Try.prog 56 #[.int .i64 n] w fun e w' => e = .returned (.bool (okB n)) ∧ w = w' := by
  go_enter Try.func56, Try.ntmps56
  go_wp2_with (go_at_call 55; refine (in_any _ _ _ _).mono ?_; rintro e w' ⟨rfl, rfl⟩)
  go_ret
  exact ⟨ret_bool (okB_in n), rfl⟩
theorem ok_any (n : Int) (w : World) : Calls Try.prog 60 #[.int .i64 n] w fun e w' => e = .returned (.bool (okB n)) ∧ w = w' := by
  by_cases h1 : 0 ≤ n
  · by_cases h2 : n < 65536
    all_goals
      go_enter Try.func60, Try.ntmps60
      go_wp2
      go_ret
      exact ⟨ret_bool (by unfold okB; simp; omega), rfl⟩
  · go_enter Try.func60, Try.ntmps60
    go_wp2
    go_ret
    exact ⟨ret_bool (by unfold okB; simp; omega), rfl⟩
theorem iadd_any (a n : Int) (w : World) : Calls Try.prog 46 #[.int .i64 a, .int .i64 n] w fun e w' => e = .returned (.int .i64 (sadd a n)) ∧ w = w' := by
  obtain ⟨b1, b2⟩ := tmod_bd n
  obtain ⟨c1, c2⟩ := tmod_bd (a + n.tmod 65536)
  by_cases h : okB a = true
  · obtain ⟨a1, a2⟩ := okB_true h
    go_enter Try.func46, Try.ntmps46
    go_wp2_with (go_at_call 60; refine (ok_any _ _).mono ?_; rintro e w' ⟨rfl, rfl⟩)
    go_ret
    refine ⟨ret_int ?_, rfl⟩
    rw [sadd_of a n h]
    obtain ⟨q, hq⟩ := tmod_eq n
    obtain ⟨r, hr⟩ := tmod_eq (a + n.tmod 65536)
    omega
  · have h : okB a = false := by simpa using h
    go_enter Try.func46, Try.ntmps46
    go_wp2_with (go_at_call 60; refine (ok_any _ _).mono ?_; rintro e w' ⟨rfl, rfl⟩)
    go_ret
    exact ⟨ret_int (by unfold sadd; rw [if_neg (by simp [h])]), rfl⟩
theorem l3add_any (a n : Int) (h : okB a = true) (w : World) : Calls Try.prog 59 #[.int .i64 a, .int .i64 n] w fun e w' => e = .returned (.int .i64 (sadd a n)) ∧ w = w' := by
  obtain ⟨b1, b2⟩ := tmod_bd n
  obtain ⟨a1, a2⟩ := okB_true h
  go_enter Try.func59, Try.ntmps59
  go_wp2
  go_ret
  refine ⟨ret_int ?_, rfl⟩
  rw [sadd_of a n h]
  obtain ⟨q, hq⟩ := tmod_eq n
  omega
end Go.Proofs.Ytkhaodbcnnlhaaa
