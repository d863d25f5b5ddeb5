/-
  The walk of 'FnAsmNewBad'. Condition: the code is a slice of bytes.
-/
import Derived.Test.YtdmdnakmjcikiaaAsmNew
import Derived.Test.YtdmdnakmjcikiaaDraw
import Derived.Test.YtdmdnakmjcikiaaSame
namespace Go.Proofs.Ytdmdnakmjcikiaa
open Go.ChangeShapes Go.WideShapes Go.ChangeAt Go.RowKit
set_option linter.unusedVariables false

theorem same_asm_new (A B A' B' : Option Addr) (n c d c' d' : Nat) (zs : List Int) (w : World) (hA : Sl w w.heap.size A (zs.map (Value.int .i64))) (hB : Sl w w.heap.size A' (zs.map (Value.int .i64))) (hn : zs.length = n) (hm : n ≤ 9223372036854775807) :
    Calls Try.prog 15 #[.agg #[.slice A n c, .slice B 0 d], .agg #[.slice A' n c', .slice B' 0 d']] w fun e w' => e = .returned (.bool true) ∧ Below w.heap.size w w' := by
  have HA := Lib.hid hA; have HB := Lib.hid hB; have HN := Lib.hid hn; clear hA hB hn
  go_enter Try.func15, Try.ntmps15
  go_wp2_with fail
  refine (same_ints _ _ _ _ _ zs _ (((HA.out.alloc (Nat.le_refl _) _).alloc (by simp) _).more (by simp; omega)) (((HB.out.alloc (Nat.le_refl _) _).alloc (by simp) _).more (by simp; omega)) HN.out hm).mono ?_
  rintro e w1 ⟨rfl, m, rfl⟩
  go_wp2_with fail
  refine (same_parts_nil _ _ _ _ _).mono ?_
  rintro e w1 ⟨rfl, m', rfl⟩
  go_wp2
  go_ret
  exact ⟨rfl, below_drewN (((Below.refl _ w).alloc (Nat.le_refl _) _).alloc (by simp) _) _⟩
theorem walkFnAsmNewBad (A : Option Addr) (n c : Nat) (w : World) (h : Bts w A n c) :
    Calls Try.prog 5 #[.slice A n c] w fun e w' => e = .returned (.bool true) ∧ Below w.heap.size w w' := by
  have hle := h.le
  have H := Lib.hid h; clear h
  by_cases hn : 1048576 < n
  · go_enter Try.func5, Try.ntmps5
    go_wp2
    go_ret
    exact ⟨rfl, Below.refl _ _⟩
  · go_enter Try.func5, Try.ntmps5
    go_wp2_with fail
    refine (draw_asm _ _ _ _ H.out).mono ?_
    rintro e w1 ⟨r, rfl, r1, r2, b1⟩
    by_cases hr : 1 ≤ r ∧ r ≤ 4
    · obtain ⟨k, rfl⟩ := Int.eq_ofNat_of_zero_le (show 0 ≤ r by omega)
      go_wp2_with fail
      refine (iasm_yes k (by omega) (by omega) _).mono ?_
      rintro e w2 ⟨A1, c1, B1, d1, rfl, oA1, oB1, b2⟩
      have O1 := Lib.hid oA1; clear oA1 oB1
      go_wp2_with fail
      refine (sasm_yes k (by omega) (by omega) _).mono ?_
      rintro e w3 ⟨A2, c2, B2, d2, rfl, oA2, oB2, b3'⟩
      obtain ⟨q3, z3, b3⟩ := boxed b3'
      have x0 := q3.get 0 rfl
      have x1 := q3.get 1 rfl
      have O2 := Lib.hid oA2; clear oA2 oB2 b3' q3
      go_wp2_with fail
      refine (same_asm_new _ _ _ _ _ _ _ _ _ (List.replicate k 0) _ ?_ ?_ (by simp) (by omega)).mono ?_
      · exact ((O1.out.sl.below b3 (Nat.le_refl _)).alloc (Nat.le_of_lt z3) _).more (by simp; omega)
      · exact (O2.out.sl.alloc (Nat.le_refl _) _).more (by simp)
      rintro e w4 ⟨rfl, b4⟩
      go_wp2
      go_ret
      exact ⟨ret_bool (by simp <;> omega), ((b1.trans (b2.mono b1.size)).trans (b3.mono (by have := b1.size; have := b2.size; omega))).trans ((((Below.refl _ w3).alloc (Nat.le_refl _) _).trans (b4.mono (by simp))).mono (by have := b1.size; have := b2.size; omega))⟩
    · go_wp2_with fail
      refine (iasm_no _ (by omega) _).mono ?_
      rintro e w2 ⟨rfl, b2⟩
      go_wp2_with fail
      refine (sasm_no _ (by omega) _).mono ?_
      rintro e w3 ⟨rfl, b3'⟩
      obtain ⟨q3, z3, b3⟩ := boxed b3'
      have x0 := q3.get 0 rfl
      have x1 := q3.get 1 rfl
      clear b3' q3
      go_wp2_with fail
      refine (same_asm_new _ _ _ _ _ _ _ _ _ [] _ (Sl.nil _ _ _) (Sl.nil _ _ _) rfl (by simp)).mono ?_
      rintro e w4 ⟨rfl, b4⟩
      have hr' : ¬ (1 ≤ r) ∨ ¬ (r ≤ 4) := by omega
      rcases hr' with hr' | hr'
      all_goals
        go_wp2
        go_ret
        exact ⟨ret_bool (by simp <;> omega), ((b1.trans (b2.mono b1.size)).trans (b3.mono (by have := b1.size; have := b2.size; omega))).trans ((((Below.refl _ w3).alloc (Nat.le_refl _) _).trans (b4.mono (by simp))).mono (by have := b1.size; have := b2.size; omega))⟩
end Go.Proofs.Ytdmdnakmjcikiaa
