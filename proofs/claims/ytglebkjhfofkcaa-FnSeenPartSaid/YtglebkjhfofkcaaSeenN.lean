/-
  What SeenNew returns, in the program and in the reference. No condition.
-/
import Derived.Test.YtglebkjhfofkcaaSeenE
namespace Go.Proofs.Ytglebkjhfofkcaa
open Go.ChangeShapes Go.WideShapes Go.ChangeAt Go.RowKit
set_option linter.unusedVariables false

def snCum (first : Int) : Int := if okB first then sadd first (-1) else 0
def SeenTwo (cum : Int) (zs : List Int) (n : Nat) (v : Value) (w : World) (e : Ending) (w' : World) : Prop :=
  ∃ A c, e = .returned (.tuple #[.agg #[.int .i64 cum, .slice A n c], v]) ∧ Own w' w.heap.size 3 1 A n c (ints zs) ∧ Below w.heap.size w w'
theorem iseen_new (first : Int) (w : World) : Calls Try.prog 21 #[.int .i64 first] w (SeenTwo (snCum first) [] 0 (.bool (okB first)) w) := by
  by_cases h : okB first = true
  · have e : snCum first = sadd first (-1) := if_pos h
    rw [e, h]
    go_enter Try.func21, Try.ntmps21
    go_wp2_with (first | (go_at_call 59; refine (ok_any _ _).mono ?_; rintro e w' ⟨rfl, rfl⟩) | (go_at_call 25; refine (iadd_any _ _ _).mono ?_; rintro e w' ⟨rfl, rfl⟩))
    go_returns
    exact ⟨_, _, rfl, Own.nil _ _ _ _, by go_grown⟩
  · have h : okB first = false := by simpa using h
    have e : snCum first = 0 := if_neg (by simp [h])
    rw [e, h]
    go_enter Try.func21, Try.ntmps21
    go_wp2_with (first | (go_at_call 59; refine (ok_any _ _).mono ?_; rintro e w' ⟨rfl, rfl⟩) | (go_at_call 25; refine (iadd_any _ _ _).mono ?_; rintro e w' ⟨rfl, rfl⟩))
    go_returns
    exact ⟨_, _, rfl, Own.nil _ _ _ _, by go_grown⟩
theorem sseen_new (first : Int) (w : World) : Calls Try.prog 22 #[.int .i64 first] w (SeenTwo (snCum first) [] 0 (.bool (okB first)) w) := by
  by_cases h : okB first = true
  · have e : snCum first = sadd first (-1) := if_pos h
    rw [e, h]
    go_enter Try.func22, Try.ntmps22
    go_wp2_with (first | (go_at_call 60; refine (l3ok_any _ _).mono ?_; rintro e w' ⟨rfl, rfl⟩) | (go_at_call 61; refine (l3add_any _ _ h _).mono ?_; rintro e w' ⟨rfl, rfl⟩))
    go_returns
    refine ⟨_, _, rfl, ?_, by go_grown⟩
    have h := Own.made (w.alloc (.cells #[.int .i64 (sadd first (-1)), .slice (some ⟨w.heap.size + 1, 0, none⟩) 0 0] 26)) w.heap.size 3 1 #[] 0 (by simp) (by unfold maxLen; omega) rfl
    simpa [ints] using h
  · have h : okB first = false := by simpa using h
    have e : snCum first = 0 := if_neg (by simp [h])
    rw [e, h]
    go_enter Try.func22, Try.ntmps22
    go_wp2_with (first | (go_at_call 60; refine (l3ok_any _ _).mono ?_; rintro e w' ⟨rfl, rfl⟩))
    go_returns
    exact ⟨_, _, rfl, Own.nil _ _ _ _, by go_grown⟩
theorem mark_seen (cum : Int) (A : Option Addr) (n c : Nat) (k : Int) (base : Nat) (zs : List Int) (w : World) (ho : Own w base 3 1 A n c (ints zs)) (hk : 0 ≤ k ∧ k ≤ 100000000) (hm : n ≤ 1048576) :
    Calls Try.prog 42 #[.agg #[.int .i64 cum, .slice A n c], .int .i64 k] w (MarkPost A n c k base w) := by
  have HO := Lib.hid ho; clear ho
  go_enter Try.func42, Try.ntmps42
  go_wp2_with fail
  refine (mark_ints _ _ _ _ base zs _ (HO.out.alloc _) hk hm).mono ?_
  rintro e w1 ⟨rfl, o1, row, g1, r1⟩
  go_wp2
  go_ret
  exact ⟨rfl, o1, row, gb_trans (World.grownBy_alloc w _ row) g1 (fun g e => .inl e), r1⟩
theorem held_seen (cum : Int) (A : Option Addr) (n c : Nat) (k : Int) (w : World) (hA : Sl w w.heap.size A (ints (marks k n))) (hk : 0 ≤ k ∧ k ≤ 100000000) (hm : n ≤ 1048576) :
    Calls Try.prog 43 #[.agg #[.int .i64 cum, .slice A n c], .int .i64 k] w fun e w' => e = .returned (.int .i64 (k + n)) ∧ Below w.heap.size w w' := by
  have HA := Lib.hid hA; clear hA
  have hk2 : ¬ (k + n < 0) := by omega
  go_enter Try.func43, Try.ntmps43
  go_wp2_with fail
  refine (held_ints _ _ _ _ _ ((HA.out.alloc (Nat.le_refl _) _).more (by simp)) hk hm).mono ?_
  rintro e w1 ⟨rfl, m, rfl⟩
  go_wp2
  go_ret
  exact ⟨rfl, below_drewN ((Below.refl _ w).alloc (Nat.le_refl _) _) _⟩
theorem same_seen (cum : Int) (A B : Option Addr) (n c d : Nat) (zs : List Int) (w : World) (hA : Sl w w.heap.size A (ints zs)) (hB : Sl w w.heap.size B (ints zs)) (hn : zs.length = n) (hm : n ≤ 9223372036854775807) :
    Calls Try.prog 23 #[.agg #[.int .i64 cum, .slice A n c], .agg #[.int .i64 cum, .slice B n d]] w fun e w' => e = .returned (.bool true) ∧ Below w.heap.size w w' := by
  have HA := Lib.hid hA; have HB := Lib.hid hB; have HN := Lib.hid hn; clear hA hB hn
  go_enter Try.func23, Try.ntmps23
  go_wp2_with fail
  refine (same_ints _ _ _ _ _ zs _ (((HA.out.alloc (Nat.le_refl _) _).alloc (by simp) _).more (by simp; omega)) (((HB.out.alloc (Nat.le_refl _) _).alloc (by simp) _).more (by simp; omega)) HN.out hm).mono ?_
  rintro e w1 ⟨rfl, m, rfl⟩
  go_wp2
  go_ret
  exact ⟨rfl, below_drewN (((Below.refl _ w).alloc (Nat.le_refl _) _).alloc (by simp) _) _⟩
end Go.Proofs.Ytglebkjhfofkcaa
