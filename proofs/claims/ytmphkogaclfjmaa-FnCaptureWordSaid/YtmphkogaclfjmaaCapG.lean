/-
  What CaptureGet returns, in the program and in the reference. Condition: the text is not too long.
-/
import Derived.Test.YtmphkogaclfjmaaCapB
namespace Go.Proofs.Ytmphkogaclfjmaa
open Go.ChangeShapes Go.WideShapes Go.ChangeAt Go.RowKit
set_option linter.unusedVariables false

theorem capGet_cases (s : List UInt8) : ((capBegin s).2 = s.length ∧ (capBegin s).2 ≠ 0 ∧ capGet s = ((capBegin s).1, true)) ∨ (¬ ((capBegin s).2 = s.length ∧ (capBegin s).2 ≠ 0) ∧ capGet s = ([], false)) := by
  by_cases h : (capBegin s).2 = s.length ∧ (capBegin s).2 ≠ 0
  · exact .inl ⟨h.1, h.2, capGet_yes h⟩
  · exact .inr ⟨h, capGet_no h⟩
theorem get_len {s : List UInt8} {l : List Rec} {ok : Bool} (h : capGet s = (l, ok)) : l.length ≤ 60 := by
  rcases capGet_cases s with ⟨_, _, e⟩ | ⟨_, e⟩
  · rw [h] at e
    injection e with e1 _
    rw [e1]
    exact (begin_len s).1
  · rw [h] at e
    injection e with e1 _
    rw [e1]
    exact Nat.zero_le _
theorem icap_get {s : ByteArray} (hs : s.size ≤ 1100000) {l : List Rec} {ok : Bool} (h : capGet (bl s) = (l, ok)) (w : World) : Calls Try.prog 29 #[.string s] w (BegP l (.bool ok) w) := by
  obtain ⟨x, n, hx⟩ : ∃ x n, capBegin (bl s) = (x, n) := ⟨_, _, rfl⟩
  have hc := capGet_cases (bl s)
  rw [h, hx, bl_len] at hc
  have HX := Lib.hid hx
  clear h hx
  rcases hc with ⟨h1, h2, h3⟩ | ⟨h1, h3⟩
  · injection h3 with h3 h4
    change n = s.size at h1
    change n ≠ 0 at h2
    change l = x at h3
    subst h3 h4
    have e1 : ((n : Int) == (s.size : Int)) = true := by simp; omega
    have e2 : ((n : Int) == 0) = false := by simp; omega
    go_enter Try.func29, Try.ntmps29
    go_wp2_with fail
    refine (icap_begin hs HX.out _).mono ?_
    rintro e w1 ⟨A, c, rfl, o, b⟩
    have O := Lib.hid o
    have B := Lib.hid b
    clear o b
    go_wp2
    go_ret2
    exact ⟨A, c, rfl, O.out, B.out⟩
  · injection h3 with h3 h4
    change ¬ (n = s.size ∧ n ≠ 0) at h1
    subst h3 h4
    by_cases hn : n = s.size
    · have e1 : ((n : Int) == (s.size : Int)) = true := by simp; omega
      have e2 : ((n : Int) == 0) = true := by simp; omega
      go_enter Try.func29, Try.ntmps29
      go_wp2_with fail
      refine (icap_begin hs HX.out _).mono ?_
      rintro e w1 ⟨A, c, rfl, o, b⟩
      have B := Lib.hid b
      clear o b h1
      go_wp2
      go_ret2
      exact ⟨none, 0, rfl, Own.nil _ _ _ _, B.out⟩
    · have e1 : ((n : Int) == (s.size : Int)) = false := by simp; omega
      go_enter Try.func29, Try.ntmps29
      go_wp2_with fail
      refine (icap_begin hs HX.out _).mono ?_
      rintro e w1 ⟨A, c, rfl, o, b⟩
      have B := Lib.hid b
      clear o b h1
      go_wp2
      go_ret2
      exact ⟨none, 0, rfl, Own.nil _ _ _ _, B.out⟩
theorem scap_get {s : ByteArray} (hs : s.size ≤ 1100000) {l : List Rec} {ok : Bool} (h : capGet (bl s) = (l, ok)) (w : World) : Calls Try.prog 28 #[.string s] w (BegP l (.bool ok) w) := by
  obtain ⟨x, n, hx⟩ : ∃ x n, capBegin (bl s) = (x, n) := ⟨_, _, rfl⟩
  have hc := capGet_cases (bl s)
  rw [h, hx, bl_len] at hc
  have HX := Lib.hid hx
  clear h hx
  rcases hc with ⟨h1, h2, h3⟩ | ⟨h1, h3⟩
  · injection h3 with h3 h4
    change n = s.size at h1
    change n ≠ 0 at h2
    change l = x at h3
    subst h3 h4
    have e1 : ((n : Int) == (s.size : Int)) = true := by simp; omega
    have e2 : ((n : Int) == 0) = false := by simp; omega
    go_enter Try.func28, Try.ntmps28
    go_wp2_with fail
    refine (scap_begin hs HX.out _).mono ?_
    rintro e w1 ⟨A, c, rfl, o, b⟩
    have O := Lib.hid o
    have B := Lib.hid b
    clear o b
    go_wp2
    go_ret2
    exact ⟨A, c, rfl, O.out, B.out⟩
  · injection h3 with h3 h4
    change ¬ (n = s.size ∧ n ≠ 0) at h1
    subst h3 h4
    by_cases hn : n = s.size
    · have e1 : ((n : Int) == (s.size : Int)) = true := by simp; omega
      have e2 : ((n : Int) == 0) = true := by simp; omega
      go_enter Try.func28, Try.ntmps28
      go_wp2_with fail
      refine (scap_begin hs HX.out _).mono ?_
      rintro e w1 ⟨A, c, rfl, o, b⟩
      have B := Lib.hid b
      clear o b h1
      go_wp2
      go_ret2
      exact ⟨_, 0, rfl, Own.made w1 w.heap.size 33 2 #[] 0 B.out.size (by unfold maxLen; omega) rfl, B.out.alloc B.out.size _⟩
    · have e1 : ((n : Int) == (s.size : Int)) = false := by simp; omega
      go_enter Try.func28, Try.ntmps28
      go_wp2_with fail
      refine (scap_begin hs HX.out _).mono ?_
      rintro e w1 ⟨A, c, rfl, o, b⟩
      have B := Lib.hid b
      clear o b h1
      go_wp2
      go_ret2
      exact ⟨_, 0, rfl, Own.made w1 w.heap.size 33 2 #[] 0 B.out.size (by unfold maxLen; omega) rfl, B.out.alloc B.out.size _⟩
end Go.Proofs.Ytmphkogaclfjmaa
