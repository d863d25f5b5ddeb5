/-
  The walk of 'FnPacketPut'. Condition: each code is a slice of bytes.
-/
import Derived.Test.YtlemdagiamnphaaPkR
import Derived.Test.YtlemdagiamnphaaFrame
namespace Go.Proofs.Ytlemdagiamnphaa
open Go.ChangeShapes Go.WideShapes Go.ChangeAt Go.RowKit
set_option linter.unusedVariables false
set_option linter.unusedSimpArgs false
set_option maxHeartbeats 1600000 in
set_option maxRecDepth 100000 in
theorem walkFnPacketPut (A : Option Addr) (n c : Nat) (w : World) (h : Bts w A n c) :
    Calls Try.prog 5 #[.slice A n c] w fun e w' => e = .returned (.bool true) ∧ Below w.heap.size w w' := by
  have hle := h.le
  have H := Lib.hid h; clear h
  by_cases hn : 1048576 < n
  · go_enter Try.func5, Try.ntmps5
    go_wp2
    go_ret
    exact ⟨rfl, Below.refl _ _⟩
  · go_enter Try.func5, Try.ntmps5
    go_wp2_with fail
    refine (draw_pack_put _ _ _ _ H.out).mono ?_
    rintro e w1 ⟨f, t, gg, A1, n1, c1, l, rfl, hl, hn1, hbo, o1, b1⟩
    have s1 := b1.size
    have B1 := Lib.hid b1
    have le1 : w.heap.size ≤ w1.heap.size := by simpa using s1
    clear s1
    clear b1
    have O1_1 := Lib.hid o1
    have HL := Lib.hid hl
    have HB := Lib.hid hbo
    clear o1 hl hbo
    have IC := Lib.hid (fun (A : Option Addr) (c : Nat) (w : World) hs => ipack_put f t gg A n1 c l w hs HL.out (by omega) HB.out)
    have SC := Lib.hid (fun (A : Option Addr) (c : Nat) (w : World) hs => spack_put f t gg A n1 c l w hs HL.out (by omega) HB.out)
    have hmx := packPut_max f t gg l
    obtain ⟨S, hS⟩ : ∃ S, S = packPut f t gg l := ⟨_, rfl⟩
    rw [← hS] at IC SC hmx
    have HSS := Lib.hid hS
    clear hS
    go_wp2_with fail
    refine (IC.out _ _ _ ((O1_1.out.sl.alloc (Nat.le_refl _) _).more (by simp))).mono ?_
    rintro e w2 ⟨rfl, b2'⟩
    obtain ⟨q2_0, z2, b2⟩ := boxed b2'
    have O1_2 := Lib.hid (O1_1.out.below b2 (Nat.le_refl _))
    have s2 := b2.size
    have B2 := Lib.hid (bstep B1.out b2 B1.out.size)
    have le2 : w1.heap.size ≤ w2.heap.size := by simpa using s2
    clear s2
    have Qb1_2 := Lib.hid q2_0
    clear b2 b2' q2_0
    have lb1 : w1.heap.size < w2.heap.size := Qb1_2.out.lt
    have cb10 : w2.cell? ⟨w1.heap.size, 0, none⟩ = some (.int .i64 f) := Qb1_2.out.get 0 rfl
    have cb11 : w2.cell? ⟨w1.heap.size, 1, none⟩ = some (.int .i64 t) := Qb1_2.out.get 1 rfl
    have cb12 : w2.cell? ⟨w1.heap.size, 2, none⟩ = some (.int .i64 gg) := Qb1_2.out.get 2 rfl
    have cb13 : w2.cell? ⟨w1.heap.size, 3, none⟩ = some (.slice A1 n1 c1) := Qb1_2.out.get 3 rfl
    go_wp2_with fail
    refine (SC.out _ _ _ O1_2.out.sl).mono ?_
    rintro e w3 ⟨rfl, b3⟩
    clear lb1 cb10 cb11 cb12 cb13
    have O1_3 := Lib.hid (O1_2.out.below b3 (Nat.le_refl _))
    have Qb1_3 := Lib.hid (Qb1_2.out.below b3 Qb1_2.out.lt)
    have s3 := b3.size
    have B3 := Lib.hid (bstep B2.out b3 B2.out.size)
    have le3 : w2.heap.size ≤ w3.heap.size := by simpa using s3
    clear s3
    clear b3
    have lb1 : w1.heap.size < w3.heap.size := Qb1_3.out.lt
    have cb10 : w3.cell? ⟨w1.heap.size, 0, none⟩ = some (.int .i64 f) := Qb1_3.out.get 0 rfl
    have cb11 : w3.cell? ⟨w1.heap.size, 1, none⟩ = some (.int .i64 t) := Qb1_3.out.get 1 rfl
    have cb12 : w3.cell? ⟨w1.heap.size, 2, none⟩ = some (.int .i64 gg) := Qb1_3.out.get 2 rfl
    have cb13 : w3.cell? ⟨w1.heap.size, 3, none⟩ = some (.slice A1 n1 c1) := Qb1_3.out.get 3 rfl
    by_cases hp : packB f t gg l = true
    · have hS := HSS.out
      have hz : 0 < S.size := by rw [hS, packPut_yes hp, mk_size]; unfold packBytes; rw [List.length_append, List.length_append, headBytes_len, long_len]; omega
      have hne := ba_some hz
      have HX := Lib.hid (show gotten (bl S) = (f, t, gg, l, 0) from by rw [hS, packPut_yes hp, bl_mk]; exact gotten_put hp)
      have GC := Lib.hid (fun w => (by rw [← HL.out]; exact ipack_get _ (by omega) _ _ _ _ _ HX.out w : Calls Try.prog 11 #[.string (S)] w (fun e w' => ∃ A c, e = .returned (.tuple #[.agg #[.int .i64 f, .int .i64 t, .int .i64 gg, .slice A n1 c], .int .i64 0]) ∧ Own w' w.heap.size 46 3 A n1 c (chks l) ∧ Below w.heap.size w w')))
      clear hS HSS hp
      go_wp2_with fail
      refine (GC.out _).mono ?_
      rintro e w4 ⟨A5, c5, rfl, o5, b4⟩
      clear lb1 cb10 cb11 cb12 cb13
      have O1_4 := Lib.hid (O1_3.out.below b4 (Nat.le_refl _))
      have Qb1_4 := Lib.hid (Qb1_3.out.below b4 Qb1_3.out.lt)
      have s4 := b4.size
      have B4 := Lib.hid (bstep B3.out b4 B3.out.size)
      have le4 : w3.heap.size ≤ w4.heap.size := by simpa using s4
      clear s4
      have O5_4 := Lib.hid o5
      clear b4 o5
      have lb1 : w1.heap.size < w4.heap.size := Qb1_4.out.lt
      have cb10 : w4.cell? ⟨w1.heap.size, 0, none⟩ = some (.int .i64 f) := Qb1_4.out.get 0 rfl
      have cb11 : w4.cell? ⟨w1.heap.size, 1, none⟩ = some (.int .i64 t) := Qb1_4.out.get 1 rfl
      have cb12 : w4.cell? ⟨w1.heap.size, 2, none⟩ = some (.int .i64 gg) := Qb1_4.out.get 2 rfl
      have cb13 : w4.cell? ⟨w1.heap.size, 3, none⟩ = some (.slice A1 n1 c1) := Qb1_4.out.get 3 rfl
      go_wp2_with fail
      refine (same_pack _ _ _ _ _ _ _ _ l _ ((O5_4.out.sl.alloc (Nat.le_refl _) _).more (by simp)) ((O1_4.out.sl.alloc (Nat.le_refl _) _).more (by simp)) HL.out (by omega)).mono ?_
      rintro e w5 ⟨rfl, b5'⟩
      obtain ⟨q5_0, z5, b5⟩ := boxed b5'
      clear lb1 cb10 cb11 cb12 cb13
      have O1_5 := Lib.hid (O1_4.out.below b5 (Nat.le_refl _))
      have Qb1_5 := Lib.hid (Qb1_4.out.below b5 Qb1_4.out.lt)
      have O5_5 := Lib.hid (O5_4.out.below b5 (Nat.le_refl _))
      have s5 := b5.size
      have B5 := Lib.hid (bstep B4.out b5 B4.out.size)
      have le5 : w4.heap.size ≤ w5.heap.size := by simpa using s5
      clear s5
      have Qb5_5 := Lib.hid q5_0
      clear b5 b5' q5_0
      go_wp2
      go_ret
      exact ⟨rfl, B5.out⟩
    · have hS2 := HSS.out.trans (packPut_no (by simpa using hp))
      subst hS2
      clear HSS hp
      go_wp2
      go_ret
      exact ⟨rfl, B3.out⟩
end Go.Proofs.Ytlemdagiamnphaa
