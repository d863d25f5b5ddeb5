/-
  The walk of 'FnExactAsmNew'. No condition.
-/
import Derived.Test.YtgljbbdhhgamjaaAsmE
import Derived.Test.YtgljbbdhhgamjaaFrame
namespace Go.Proofs.Ytgljbbdhhgamjaa
open Go.ChangeShapes Go.WideShapes Go.ChangeAt Go.RowKit
set_option linter.unusedVariables false
set_option linter.unusedSimpArgs false
set_option maxHeartbeats 1600000 in
set_option maxRecDepth 100000 in
theorem walkFnExactAsmNew (r : Int) (w : World) (hr : -9223372036854775808 ≤ r ∧ r ≤ 9223372036854775807) :
    Calls Try.prog 6 #[.int .i64 r] w fun e w' => e = .returned (.bool true) ∧ Below w.heap.size w w' := by
  obtain ⟨n, ok, hn4, hok, _, hi, hs⟩ := iasm_new r
  have IC := Lib.hid hi
  have SC := Lib.hid hs
  have HN : (List.replicate n (0 : Int)).length = n := List.length_replicate
  have HL := Lib.hid HN
  clear hi hs HN
  go_enter Try.func6, Try.ntmps6
  go_wp2_with fail
  refine (SC.out _).mono ?_
  rintro e w1 ⟨A1, c1, B1', d1, rfl, o1, b1⟩
  have s1 := b1.size
  have B1 := Lib.hid b1
  have le1 : w.heap.size ≤ w1.heap.size := by simpa using s1
  clear s1
  have Ow_1 := Lib.hid o1
  clear b1 o1
  go_wp2_with fail
  refine (IC.out _).mono ?_
  rintro e w2 ⟨A2, c2, B2', d2, rfl, o2, b2'⟩
  obtain ⟨q2_0, z2, b2⟩ := boxed b2'
  have Ow_2 := Lib.hid (Ow_1.out.below b2 (Nat.le_refl _))
  have s2 := b2.size
  have B2 := Lib.hid (bstep B1.out b2 B1.out.size)
  have le2 : w1.heap.size ≤ w2.heap.size := by simpa using s2
  clear s2
  have Qbw_2 := Lib.hid q2_0
  have Og_2 := Lib.hid o2
  clear b2 b2' q2_0 o2
  have lbw : w1.heap.size < w2.heap.size := Qbw_2.out.lt
  have cbw0 : w2.cell? ⟨w1.heap.size, 0, none⟩ = some (.slice A1 n c1) := Qbw_2.out.get 0 rfl
  have cbw1 : w2.cell? ⟨w1.heap.size, 1, none⟩ = some (.slice B1' 0 d1) := Qbw_2.out.get 1 rfl
  go_wp2_with fail
  refine (eq_asm _ _ _ _ _ _ _ _ _ (List.replicate n 0) _ ((Og_2.out.sl.alloc (Nat.le_refl _) _).more (by simp)) ((Ow_2.out.sl.alloc (Nat.le_refl _) _).more (by simp)) HL.out (by omega)).mono ?_
  rintro e w3 ⟨rfl, b3'⟩
  obtain ⟨q3_0, z3, b3⟩ := boxed b3'
  clear lbw cbw0 cbw1
  have Ow_3 := Lib.hid (Ow_2.out.below b3 (Nat.le_refl _))
  have Qbw_3 := Lib.hid (Qbw_2.out.below b3 Qbw_2.out.lt)
  have Og_3 := Lib.hid (Og_2.out.below b3 (Nat.le_refl _))
  have s3 := b3.size
  have B3 := Lib.hid (bstep B2.out b3 B2.out.size)
  have le3 : w2.heap.size ≤ w3.heap.size := by simpa using s3
  clear s3
  have Qbg_3 := Lib.hid q3_0
  clear b3 b3' q3_0
  have lbg : w2.heap.size < w3.heap.size := Qbg_3.out.lt
  have cbg0 : w3.cell? ⟨w2.heap.size, 0, none⟩ = some (.slice A2 n c2) := Qbg_3.out.get 0 rfl
  have cbg1 : w3.cell? ⟨w2.heap.size, 1, none⟩ = some (.slice B2' 0 d2) := Qbg_3.out.get 1 rfl
  go_wp2_with fail
  refine (mark_asm _ _ _ _ _ 1 _ (List.replicate n 0) _ Og_3.out (by omega) (by omega)).mono ?_
  rintro e w4 ⟨rfl, o4, row4, g4, r4⟩
  clear lbg cbg0 cbg1
  have Ow_4 := Lib.hid (own_marked Ow_3.out Og_3.out g4 r4 (fun a b ha hb => by
    have p1 := Og_2.out.blk a ha
    have p2 := Ow_1.out.blk b hb
    try simp only [World.size_alloc, World.size_drew] at p1 p2
    omega))
  have Qbw_4 := Lib.hid (blk_marked Qbw_3.out Og_3.out (by decide) g4 r4)
  have Og_4 := Lib.hid o4
  have Qbg_4 := Lib.hid (blk_marked Qbg_3.out Og_3.out (by decide) g4 r4)
  have le4 : w3.heap.size ≤ w4.heap.size := g4.size
  have B4 := Lib.hid (below_marked B3.out Og_3.out (by (try simp only [World.size_alloc, World.size_drew]); omega) g4 r4)
  clear o4 g4 r4
  have lbg : w2.heap.size < w4.heap.size := Qbg_4.out.lt
  have cbg0 : w4.cell? ⟨w2.heap.size, 0, none⟩ = some (.slice A2 n c2) := Qbg_4.out.get 0 rfl
  have cbg1 : w4.cell? ⟨w2.heap.size, 1, none⟩ = some (.slice B2' 0 d2) := Qbg_4.out.get 1 rfl
  go_wp2_with fail
  refine (held_asm _ _ _ _ _ 1 _ Og_4.out.sl (by omega) (by omega)).mono ?_
  rintro e w5 ⟨rfl, b5⟩
  clear lbg cbg0 cbg1
  have Ow_5 := Lib.hid (Ow_4.out.below b5 (Nat.le_refl _))
  have Qbw_5 := Lib.hid (Qbw_4.out.below b5 Qbw_4.out.lt)
  have Og_5 := Lib.hid (Og_4.out.below b5 (Nat.le_refl _))
  have Qbg_5 := Lib.hid (Qbg_4.out.below b5 Qbg_4.out.lt)
  have s5 := b5.size
  have B5 := Lib.hid (bstep B4.out b5 B4.out.size)
  have le5 : w4.heap.size ≤ w5.heap.size := by simpa using s5
  clear s5
  clear b5
  go_wp2_with fail
  refine (IC.out _).mono ?_
  rintro e w6 ⟨A6, c6, B6', d6, rfl, o6, b6⟩
  have Ow_6 := Lib.hid (Ow_5.out.below b6 (Nat.le_refl _))
  have Qbw_6 := Lib.hid (Qbw_5.out.below b6 Qbw_5.out.lt)
  have Og_6 := Lib.hid (Og_5.out.below b6 (Nat.le_refl _))
  have Qbg_6 := Lib.hid (Qbg_5.out.below b6 Qbg_5.out.lt)
  have s6 := b6.size
  have B6 := Lib.hid (bstep B5.out b6 B5.out.size)
  have le6 : w5.heap.size ≤ w6.heap.size := by simpa using s6
  clear s6
  have Oh_6 := Lib.hid o6
  clear b6 o6
  have lbw : w1.heap.size < w6.heap.size := Qbw_6.out.lt
  have cbw0 : w6.cell? ⟨w1.heap.size, 0, none⟩ = some (.slice A1 n c1) := Qbw_6.out.get 0 rfl
  have cbw1 : w6.cell? ⟨w1.heap.size, 1, none⟩ = some (.slice B1' 0 d1) := Qbw_6.out.get 1 rfl
  go_wp2_with fail
  refine (eq_asm _ _ _ _ _ _ _ _ _ (List.replicate n 0) _ ((Oh_6.out.sl.alloc (Nat.le_refl _) _).more (by simp)) ((Ow_6.out.sl.alloc (Nat.le_refl _) _).more (by simp)) HL.out (by omega)).mono ?_
  rintro e w7 ⟨rfl, b7'⟩
  obtain ⟨q7_0, z7, b7⟩ := boxed b7'
  clear lbw cbw0 cbw1
  have Ow_7 := Lib.hid (Ow_6.out.below b7 (Nat.le_refl _))
  have Qbw_7 := Lib.hid (Qbw_6.out.below b7 Qbw_6.out.lt)
  have Og_7 := Lib.hid (Og_6.out.below b7 (Nat.le_refl _))
  have Qbg_7 := Lib.hid (Qbg_6.out.below b7 Qbg_6.out.lt)
  have Oh_7 := Lib.hid (Oh_6.out.below b7 (Nat.le_refl _))
  have s7 := b7.size
  have B7 := Lib.hid (bstep B6.out b7 B6.out.size)
  have le7 : w6.heap.size ≤ w7.heap.size := by simpa using s7
  clear s7
  have Qbh_7 := Lib.hid q7_0
  clear b7 b7' q7_0
  have lbg : w2.heap.size < w7.heap.size := Qbg_7.out.lt
  have cbg0 : w7.cell? ⟨w2.heap.size, 0, none⟩ = some (.slice A2 n c2) := Qbg_7.out.get 0 rfl
  have cbg1 : w7.cell? ⟨w2.heap.size, 1, none⟩ = some (.slice B2' 0 d2) := Qbg_7.out.get 1 rfl
  go_wp2_with fail
  refine (held_asm _ _ _ _ _ 1 _ Og_7.out.sl (by omega) (by omega)).mono ?_
  rintro e w8 ⟨rfl, b8⟩
  clear lbg cbg0 cbg1
  have Ow_8 := Lib.hid (Ow_7.out.below b8 (Nat.le_refl _))
  have Qbw_8 := Lib.hid (Qbw_7.out.below b8 Qbw_7.out.lt)
  have Og_8 := Lib.hid (Og_7.out.below b8 (Nat.le_refl _))
  have Qbg_8 := Lib.hid (Qbg_7.out.below b8 Qbg_7.out.lt)
  have Oh_8 := Lib.hid (Oh_7.out.below b8 (Nat.le_refl _))
  have Qbh_8 := Lib.hid (Qbh_7.out.below b8 Qbh_7.out.lt)
  have s8 := b8.size
  have B8 := Lib.hid (bstep B7.out b8 B7.out.size)
  have le8 : w7.heap.size ≤ w8.heap.size := by simpa using s8
  clear s8
  clear b8
  go_wp2
  go_ret
  exact ⟨rfl, B8.out⟩
end Go.Proofs.Ytgljbbdhhgamjaa
