/-
  What DrawSeenValid and DrawSeenSack return. Condition: the code is a slice of bytes.
-/
import Derived.Test.YtglebkjhfofkcaaDrawS
namespace Go.Proofs.Ytglebkjhfofkcaa
open Go.ChangeShapes Go.WideShapes Go.ChangeAt Go.RowKit
set_option linter.unusedVariables false

/-- A Seen that was drawn. -/
def SeenDr (w : World) (e : Ending) (w' : World) : Prop :=
  ∃ (cum : Int) (A : Option Addr) (n c : Nat) (zs : List Int), e = .returned (.agg #[.int .i64 cum, .slice A n c]) ∧ zs.length = n ∧ n ≤ 18 ∧ Own w' w.heap.size 3 1 A n c (ints zs) ∧ Below w.heap.size w w'
theorem draw_seen_sack (A0 : Option Addr) (n0 c0 : Nat) (w : World) (h : Bts w A0 n0 c0) : Calls Try.prog 54 #[.slice A0 n0 c0] w (SeenDr w) := by
  have H := Lib.hid (h.below ((Below.refl _ w).alloc (Nat.le_refl _) (.cells #[.int .i64 0, .slice none 0 0] 26))); clear h
  go_enter Try.func54, Try.ntmps54
  go_wp2_with fail
  refine (opened _ _ _ _ H.out).mono ?_
  rintro e w1 ⟨rfl, r1, b1', s1⟩
  obtain ⟨q1, z1, b1⟩ := boxed b1'
  simp only [World.size_alloc] at r1
  have Q1 := Lib.hid q1
  have B1 := Lib.hid b1
  clear b1' b1 q1 s1
  go_wp2_with fail
  refine (seen_drawn _ _ _ r1 (by omega)).mono ?_
  rintro e w2 ⟨cum, A, n, c, zs, rfl, hzl, hn, o2, r2, g2⟩
  have HZ := Lib.hid hzl
  have Q2 := Lib.hid (Q1.out.grown g2 (fun e => by injection e; omega))
  have O2 := Lib.hid o2
  have B2 := Lib.hid (B1.out.grown g2 B1.out.size (fun k hk => by injection hk; omega))
  have y0 := Q2.out.get 0 rfl
  have y1 := Q2.out.get 1 rfl
  have f0 := Q2.out.frozen 0
  have f1 := Q2.out.frozen 1
  clear hzl o2 g2 r1 r2
  go_wp2
  refine bodyPost_ret (v := .agg #[.int .i64 cum, .slice A n c]) (by simp [results, Try.results54, go_sem, y0, y1]) rfl ?_
  exact ⟨cum, A, n, c, zs, rfl, HZ.out, hn, ((O2.out.setLow (by simp; omega) _).setLow (by simp; omega) _).lower (by omega), (B2.out.setCell (by simp) _).setCell (by simp) _⟩
theorem draw_seen_valid (A0 : Option Addr) (n0 c0 : Nat) (w : World) (h : Bts w A0 n0 c0) : Calls Try.prog 31 #[.slice A0 n0 c0] w (SeenDr w) := by
  have H := Lib.hid (h.below ((Below.refl _ w).alloc (Nat.le_refl _) (.cells #[.int .i64 0, .slice none 0 0] 26))); clear h
  go_enter Try.func31, Try.ntmps31
  go_wp2_with fail
  refine (opened _ _ _ _ H.out).mono ?_
  rintro e w1 ⟨rfl, r1, b1', s1⟩
  obtain ⟨q1, z1, b1⟩ := boxed b1'
  simp only [World.size_alloc] at r1
  have Q1 := Lib.hid q1
  have B1 := Lib.hid b1
  clear b1' b1 q1 s1
  go_wp2_with fail
  refine (seen_drawn _ _ _ r1 (by omega)).mono ?_
  rintro e w2 ⟨cum, A, n, c, zs, rfl, hzl, hn, o2, r2, g2⟩
  have HZ := Lib.hid hzl
  have Q2 := Lib.hid (Q1.out.grown g2 (fun e => by injection e; omega))
  have O2 := Lib.hid o2
  have B2 := Lib.hid (B1.out.grown g2 B1.out.size (fun k hk => by injection hk; omega))
  have y0 := Q2.out.get 0 rfl
  have y1 := Q2.out.get 1 rfl
  have f0 := Q2.out.frozen 0
  have f1 := Q2.out.frozen 1
  clear hzl o2 g2 r1 r2
  go_wp2
  refine bodyPost_ret (v := .agg #[.int .i64 cum, .slice A n c]) (by simp [results, Try.results31, go_sem, y0, y1]) rfl ?_
  exact ⟨cum, A, n, c, zs, rfl, HZ.out, hn, ((O2.out.setLow (by simp; omega) _).setLow (by simp; omega) _).lower (by omega), (B2.out.setCell (by simp) _).setCell (by simp) _⟩
end Go.Proofs.Ytglebkjhfofkcaa
