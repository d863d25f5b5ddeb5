/-
  The walk of 'FnPacketShort'. Condition: each code is a slice of bytes.
-/
import Derived.Test.YtlemdagiamnphaaPkR
import Derived.Test.YtlemdagiamnphaaFrame
namespace Go.Proofs.Ytlemdagiamnphaa
open Go.ChangeShapes Go.WideShapes Go.ChangeAt Go.RowKit
set_option linter.unusedVariables false
set_option linter.unusedSimpArgs false
set_option maxHeartbeats 1600000 in
set_option maxRecDepth 100000 in
theorem walkFnPacketShort (A : Option Addr) (n c : Nat) (w : World) (h : Bts w A n c) :
    Calls Try.prog 8 #[.slice A n c] w fun e w' => e = .returned (.bool true) ∧ Below w.heap.size w w' := by
  have hle := h.le
  have H := Lib.hid h; clear h
  by_cases hn : 1048576 < n
  · go_enter Try.func8, Try.ntmps8
    go_wp2
    go_ret
    exact ⟨rfl, Below.refl _ _⟩
  · go_enter Try.func8, Try.ntmps8
    go_wp2_with fail
    refine (draw_pack_get _ _ _ _ H.out).mono ?_
    rintro e w1 ⟨s, rfl, hs, b1⟩
    have s1 := b1.size
    have B1 := Lib.hid b1
    have le1 : w.heap.size ≤ w1.heap.size := by simpa using s1
    clear s1
    clear b1
    obtain ⟨f, t, gg, cs, k, hx⟩ : ∃ f t g cs k, gotten (bl s) = (f, t, g, cs, k) := ⟨_, _, _, _, _, rfl⟩
    have HX := Lib.hid hx
    have hlen := gotten_len hx
    obtain ⟨n1, hn1⟩ : ∃ n, n = cs.length := ⟨_, rfl⟩
    have HL := Lib.hid hn1.symm
    have hn4 : n1 ≤ 4 := by omega
    clear hx hlen hn1
    have IC := Lib.hid (fun w => (by rw [← HL.out]; exact ipack_get _ (by omega) _ _ _ _ _ HX.out w : Calls Try.prog 11 #[.string (s)] w (fun e w' => ∃ A c, e = .returned (.tuple #[.agg #[.int .i64 f, .int .i64 t, .int .i64 gg, .slice A n1 c], .int .i64 k]) ∧ Own w' w.heap.size 46 3 A n1 c (chks cs) ∧ Below w.heap.size w w')))
    have SC := Lib.hid (fun w => (by rw [← HL.out]; exact spack_get _ (by omega) _ _ _ _ _ HX.out w : Calls Try.prog 12 #[.string (s)] w (fun e w' => ∃ A c, e = .returned (.tuple #[.agg #[.int .i64 f, .int .i64 t, .int .i64 gg, .slice A n1 c], .int .i64 k]) ∧ Own w' w.heap.size 46 3 A n1 c (chks cs) ∧ Below w.heap.size w w')))
    go_wp2_with fail
    refine (IC.out _).mono ?_
    rintro e w2 ⟨A2, c2, rfl, o2, b2⟩
    have s2 := b2.size
    have B2 := Lib.hid (bstep B1.out b2 B1.out.size)
    have le2 : w1.heap.size ≤ w2.heap.size := by simpa using s2
    clear s2
    have Oi_2 := Lib.hid o2
    clear b2 o2
    go_wp2_with fail
    refine (SC.out _).mono ?_
    rintro e w3 ⟨A3, c3, rfl, o3, b3'⟩
    obtain ⟨q3_0, z3, b3⟩ := boxed b3'
    have Oi_3 := Lib.hid (Oi_2.out.below b3 (Nat.le_refl _))
    have s3 := b3.size
    have B3 := Lib.hid (bstep B2.out b3 B2.out.size)
    have le3 : w2.heap.size ≤ w3.heap.size := by simpa using s3
    clear s3
    have Qbi_3 := Lib.hid q3_0
    have Os_3 := Lib.hid o3
    clear b3 b3' q3_0 o3
    have lbi : w2.heap.size < w3.heap.size := Qbi_3.out.lt
    have cbi0 : w3.cell? ⟨w2.heap.size, 0, none⟩ = some (.int .i64 f) := Qbi_3.out.get 0 rfl
    have cbi1 : w3.cell? ⟨w2.heap.size, 1, none⟩ = some (.int .i64 t) := Qbi_3.out.get 1 rfl
    have cbi2 : w3.cell? ⟨w2.heap.size, 2, none⟩ = some (.int .i64 gg) := Qbi_3.out.get 2 rfl
    have cbi3 : w3.cell? ⟨w2.heap.size, 3, none⟩ = some (.slice A2 n1 c2) := Qbi_3.out.get 3 rfl
    go_wp2_with fail
    refine (same_pack _ _ _ _ _ _ _ _ cs _ ((Oi_3.out.sl.alloc (Nat.le_refl _) _).more (by simp)) ((Os_3.out.sl.alloc (Nat.le_refl _) _).more (by simp)) HL.out (by omega)).mono ?_
    rintro e w4 ⟨rfl, b4'⟩
    obtain ⟨q4_0, z4, b4⟩ := boxed b4'
    clear lbi cbi0 cbi1 cbi2 cbi3
    have Oi_4 := Lib.hid (Oi_3.out.below b4 (Nat.le_refl _))
    have Qbi_4 := Lib.hid (Qbi_3.out.below b4 Qbi_3.out.lt)
    have Os_4 := Lib.hid (Os_3.out.below b4 (Nat.le_refl _))
    have s4 := b4.size
    have B4 := Lib.hid (bstep B3.out b4 B3.out.size)
    have le4 : w3.heap.size ≤ w4.heap.size := by simpa using s4
    clear s4
    have Qbs_4 := Lib.hid q4_0
    clear b4 b4' q4_0
    have lbi : w2.heap.size < w4.heap.size := Qbi_4.out.lt
    have cbi0 : w4.cell? ⟨w2.heap.size, 0, none⟩ = some (.int .i64 f) := Qbi_4.out.get 0 rfl
    have cbi1 : w4.cell? ⟨w2.heap.size, 1, none⟩ = some (.int .i64 t) := Qbi_4.out.get 1 rfl
    have cbi2 : w4.cell? ⟨w2.heap.size, 2, none⟩ = some (.int .i64 gg) := Qbi_4.out.get 2 rfl
    have cbi3 : w4.cell? ⟨w2.heap.size, 3, none⟩ = some (.slice A2 n1 c2) := Qbi_4.out.get 3 rfl
    have lbs : w3.heap.size < w4.heap.size := Qbs_4.out.lt
    have cbs0 : w4.cell? ⟨w3.heap.size, 0, none⟩ = some (.int .i64 f) := Qbs_4.out.get 0 rfl
    have cbs1 : w4.cell? ⟨w3.heap.size, 1, none⟩ = some (.int .i64 t) := Qbs_4.out.get 1 rfl
    have cbs2 : w4.cell? ⟨w3.heap.size, 2, none⟩ = some (.int .i64 gg) := Qbs_4.out.get 2 rfl
    have cbs3 : w4.cell? ⟨w3.heap.size, 3, none⟩ = some (.slice A3 n1 c3) := Qbs_4.out.get 3 rfl
    have hone := code_one (l := bl s)
    rw [← gotten_code HX.out, bl_len] at hone
    by_cases hk : k = 0
    · subst hk
      have h12 : ¬ s.size < 12 := fun h => by have := hone.2 h; omega
      have h12' : ¬ ((s.size : Int) < 12) := by omega
      clear hone
      go_wp2
      go_ret
      first | exact ⟨rfl, B4.out⟩ | exact ⟨ret_bool (by simp <;> omega), B4.out⟩
    · have e0 : (k == 0) = false := by simpa using hk
      obtain ⟨rfl, rfl, rfl, rfl⟩ := gotten_zero HX.out hk
      obtain rfl : n1 = 0 := HL.out.symm
      by_cases h12 : s.size < 12
      · obtain rfl : k = 1 := hone.2 h12
        have h12' : (s.size : Int) < 12 := by omega
        clear hone
        go_wp2_with fail
        refine (same_pack 0 0 0 _ none 0 _ 0 [] _ Oi_4.out.sl (Sl.nil _ _ _) rfl (by omega)).mono ?_
        rintro e w5 ⟨rfl, b5⟩
        clear lbi cbi0 cbi1 cbi2 cbi3 lbs cbs0 cbs1 cbs2 cbs3
        have Oi_5 := Lib.hid (Oi_4.out.below b5 (Nat.le_refl _))
        have Qbi_5 := Lib.hid (Qbi_4.out.below b5 Qbi_4.out.lt)
        have Os_5 := Lib.hid (Os_4.out.below b5 (Nat.le_refl _))
        have Qbs_5 := Lib.hid (Qbs_4.out.below b5 Qbs_4.out.lt)
        have s5 := b5.size
        have B5 := Lib.hid (bstep B4.out b5 B4.out.size)
        have le5 : w4.heap.size ≤ w5.heap.size := by simpa using s5
        clear s5
        clear b5
        go_wp2
        go_ret
        first | exact ⟨rfl, B5.out⟩ | exact ⟨ret_bool (by simp [*] <;> omega), B5.out⟩
      · have e1 : (k == 1) = false := by simp only [beq_eq_false_iff_ne]; exact fun e => h12 (hone.1 e)
        have h12' : ¬ ((s.size : Int) < 12) := by omega
        clear hone
        go_wp2_with fail
        refine (same_pack 0 0 0 _ none 0 _ 0 [] _ Oi_4.out.sl (Sl.nil _ _ _) rfl (by omega)).mono ?_
        rintro e w5 ⟨rfl, b5⟩
        clear lbi cbi0 cbi1 cbi2 cbi3 lbs cbs0 cbs1 cbs2 cbs3
        have Oi_5 := Lib.hid (Oi_4.out.below b5 (Nat.le_refl _))
        have Qbi_5 := Lib.hid (Qbi_4.out.below b5 Qbi_4.out.lt)
        have Os_5 := Lib.hid (Os_4.out.below b5 (Nat.le_refl _))
        have Qbs_5 := Lib.hid (Qbs_4.out.below b5 Qbs_4.out.lt)
        have s5 := b5.size
        have B5 := Lib.hid (bstep B4.out b5 B4.out.size)
        have le5 : w4.heap.size ≤ w5.heap.size := by simpa using s5
        clear s5
        clear b5
        go_wp2
        go_ret
        first | exact ⟨rfl, B5.out⟩ | exact ⟨ret_bool (by simp [*] <;> omega), B5.out⟩
end Go.Proofs.Ytlemdagiamnphaa
