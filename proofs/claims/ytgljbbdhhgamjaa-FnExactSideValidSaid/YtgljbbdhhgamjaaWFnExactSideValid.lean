/-
  The walk of 'FnExactSideValid'. Condition: the parts can be read.
-/
import Derived.Test.YtgljbbdhhgamjaaSideV
import Derived.Test.YtgljbbdhhgamjaaSideL
import Derived.Deep.RegionHeld3
namespace Go.Proofs.Ytgljbbdhhgamjaa
open Go.ChangeShapes Go.WideShapes Go.ChangeAt Go.RowKit
set_option linter.unusedVariables false
set_option linter.unusedSimpArgs false
set_option maxHeartbeats 1600000 in
theorem walkFnExactSideValid (tag st fi ac : Int) (A : Option Addr) (m c : Nat) (ps : List Dat) (w : World) (hp : Sl w w.heap.size A (dats ps)) (hm : ps.length = m) (hc2 : m ≤ c) (hm3 : c ≤ maxLen) (ht : Dats ps) :
    Calls Try.prog 8 #[.agg #[.int .i64 tag, .int .i64 st, .int .i64 fi, .slice A m c, .int .i64 ac]] w fun e w' => e = .returned (.bool true) ∧ Below w.heap.size w w' := by
  have HP := Lib.hid hp; have HM := Lib.hid hm; have HT := Lib.hid ht; clear hp hm ht
  have hm2 : m ≤ 9223372036854775807 := by unfold maxLen at hm3; omega
  clear hc2 hm3
  obtain ⟨v, hv⟩ : ∃ v, sideB tag st fi ac ps = v := ⟨_, rfl⟩
  go_enter Try.func8, Try.ntmps8
  go_wp2_with fail
  refine (sz_side _ _ _ _ _ _ _ ps _ _ (by omega) ((HP.out.alloc (Nat.le_refl _) _).more (by simp)) HM.out hm2 HT.out).mono ?_
  rintro e w1 ⟨r, rfl, hr, b1'⟩
  obtain ⟨q1_0, z1, b1⟩ := boxed b1'
  have s1 := b1.size
  have B1 := Lib.hid b1
  have le1 : w.heap.size ≤ w1.heap.size := by simpa using s1
  clear s1
  have Qa_1 := Lib.hid q1_0
  clear b1 b1' q1_0
  have la : w.heap.size < w1.heap.size := Qa_1.out.lt
  have ca0 : w1.cell? ⟨w.heap.size, 0, none⟩ = some (.int .i64 tag) := Qa_1.out.get 0 rfl
  have ca1 : w1.cell? ⟨w.heap.size, 1, none⟩ = some (.int .i64 st) := Qa_1.out.get 1 rfl
  have ca2 : w1.cell? ⟨w.heap.size, 2, none⟩ = some (.int .i64 fi) := Qa_1.out.get 2 rfl
  have ca3 : w1.cell? ⟨w.heap.size, 3, none⟩ = some (.slice A m c) := Qa_1.out.get 3 rfl
  have ca4 : w1.cell? ⟨w.heap.size, 4, none⟩ = some (.int .i64 ac) := Qa_1.out.get 4 rfl
  rcases hr with rfl | ⟨r1, r2, r4⟩
  · go_wp2
    go_ret
    exact ⟨rfl, B1.out⟩
  have hr0 : ¬ r < 0 := by omega
  go_wp2_with fail
  refine (to_side _ _ _ _ _ _ _ ps _ ((HP.out.below B1.out (Nat.le_refl _)).more B1.out.size) HM.out r4).mono ?_
  rintro e w2 ⟨A4, c4, rfl, o4, b2⟩
  have k4 : m ≤ c4 ∧ c4 ≤ 9223372036854775807 := by have := o4.caps; unfold maxLen at this; exact this
  clear la ca0 ca1 ca2 ca3 ca4
  have Qa_2 := Lib.hid (Qa_1.out.below b2 Qa_1.out.lt)
  have s2 := b2.size
  have B2 := Lib.hid (bstep B1.out b2 B1.out.size)
  have le2 : w1.heap.size ≤ w2.heap.size := by simpa using s2
  clear s2
  have O4_2 := Lib.hid o4
  clear b2 o4
  go_wp2_with fail
  refine (sside_valid _ _ _ _ _ _ _ ps hv _ O4_2.out.sl HM.out k4.1 k4.2 HT.out).mono ?_
  rintro e w3 ⟨rfl, b3⟩
  have Qa_3 := Lib.hid (Qa_2.out.below b3 Qa_2.out.lt)
  have O4_3 := Lib.hid (O4_2.out.below b3 (Nat.le_refl _))
  have s3 := b3.size
  have B3 := Lib.hid (bstep B2.out b3 B2.out.size)
  have le3 : w2.heap.size ≤ w3.heap.size := by simpa using s3
  clear s3
  clear b3
  have la : w.heap.size < w3.heap.size := Qa_3.out.lt
  have ca0 : w3.cell? ⟨w.heap.size, 0, none⟩ = some (.int .i64 tag) := Qa_3.out.get 0 rfl
  have ca1 : w3.cell? ⟨w.heap.size, 1, none⟩ = some (.int .i64 st) := Qa_3.out.get 1 rfl
  have ca2 : w3.cell? ⟨w.heap.size, 2, none⟩ = some (.int .i64 fi) := Qa_3.out.get 2 rfl
  have ca3 : w3.cell? ⟨w.heap.size, 3, none⟩ = some (.slice A m c) := Qa_3.out.get 3 rfl
  have ca4 : w3.cell? ⟨w.heap.size, 4, none⟩ = some (.int .i64 ac) := Qa_3.out.get 4 rfl
  go_wp2_with fail
  refine (to_side _ _ _ _ _ _ _ ps _ ((HP.out.below B3.out (Nat.le_refl _)).more B3.out.size) HM.out r4).mono ?_
  rintro e w4 ⟨A6, c6, rfl, o6, b4⟩
  have k6 : m ≤ c6 ∧ c6 ≤ 9223372036854775807 := by have := o6.caps; unfold maxLen at this; exact this
  clear la ca0 ca1 ca2 ca3 ca4
  have Qa_4 := Lib.hid (Qa_3.out.below b4 Qa_3.out.lt)
  have O4_4 := Lib.hid (O4_3.out.below b4 (Nat.le_refl _))
  have s4 := b4.size
  have B4 := Lib.hid (bstep B3.out b4 B3.out.size)
  have le4 : w3.heap.size ≤ w4.heap.size := by simpa using s4
  clear s4
  have O6_4 := Lib.hid o6
  clear b4 o6
  go_wp2_with fail
  refine (iside_valid _ _ _ _ _ _ _ ps hv _ ((O6_4.out.sl.alloc (Nat.le_refl _) _).more (by simp)) HM.out k6.1 k6.2 HT.out).mono ?_
  rintro e w5 ⟨rfl, b5'⟩
  obtain ⟨q5_0, z5, b5⟩ := boxed b5'
  have Qa_5 := Lib.hid (Qa_4.out.below b5 Qa_4.out.lt)
  have O4_5 := Lib.hid (O4_4.out.below b5 (Nat.le_refl _))
  have O6_5 := Lib.hid (O6_4.out.below b5 (Nat.le_refl _))
  have s5 := b5.size
  have B5 := Lib.hid (bstep B4.out b5 B4.out.size)
  have le5 : w4.heap.size ≤ w5.heap.size := by simpa using s5
  clear s5
  have Qx_5 := Lib.hid q5_0
  clear b5 b5' q5_0
  have la : w.heap.size < w5.heap.size := Qa_5.out.lt
  have ca0 : w5.cell? ⟨w.heap.size, 0, none⟩ = some (.int .i64 tag) := Qa_5.out.get 0 rfl
  have ca1 : w5.cell? ⟨w.heap.size, 1, none⟩ = some (.int .i64 st) := Qa_5.out.get 1 rfl
  have ca2 : w5.cell? ⟨w.heap.size, 2, none⟩ = some (.int .i64 fi) := Qa_5.out.get 2 rfl
  have ca3 : w5.cell? ⟨w.heap.size, 3, none⟩ = some (.slice A m c) := Qa_5.out.get 3 rfl
  have ca4 : w5.cell? ⟨w.heap.size, 4, none⟩ = some (.int .i64 ac) := Qa_5.out.get 4 rfl
  have lx : w4.heap.size < w5.heap.size := Qx_5.out.lt
  have cx0 : w5.cell? ⟨w4.heap.size, 0, none⟩ = some (.int .i64 tag) := Qx_5.out.get 0 rfl
  have cx1 : w5.cell? ⟨w4.heap.size, 1, none⟩ = some (.int .i64 st) := Qx_5.out.get 1 rfl
  have cx2 : w5.cell? ⟨w4.heap.size, 2, none⟩ = some (.int .i64 fi) := Qx_5.out.get 2 rfl
  have cx3 : w5.cell? ⟨w4.heap.size, 3, none⟩ = some (.slice A6 m c6) := Qx_5.out.get 3 rfl
  have cx4 : w5.cell? ⟨w4.heap.size, 4, none⟩ = some (.int .i64 ac) := Qx_5.out.get 4 rfl
  go_wp2_with fail
  go_region_held3 (fun w' => w'.cell? ⟨w4.heap.size, 0, none⟩ = some (.int .i64 tag) ∧ w'.cell? ⟨w4.heap.size, 1, none⟩ = some (.int .i64 st) ∧ w'.cell? ⟨w4.heap.size, 2, none⟩ = some (.int .i64 fi) ∧ w'.cell? ⟨w4.heap.size, 3, none⟩ = some (.slice A6 m c6) ∧ w'.cell? ⟨w4.heap.size, 4, none⟩ = some (.int .i64 ac) ∧ w'.cell? ⟨w.heap.size, 0, none⟩ = some (.int .i64 tag) ∧ w'.cell? ⟨w.heap.size, 1, none⟩ = some (.int .i64 st) ∧ w'.cell? ⟨w.heap.size, 2, none⟩ = some (.int .i64 fi) ∧ w'.cell? ⟨w.heap.size, 3, none⟩ = some (.slice A m c) ∧ w'.cell? ⟨w.heap.size, 4, none⟩ = some (.int .i64 ac)) (first | exact ⟨cx0, cx1, cx2, cx3, cx4, ca0, ca1, ca2, ca3, ca4⟩ | exact ⟨dx0, dx1, dx2, dx3, dx4, da0, da1, da2, da3, da4⟩ | exact ⟨ex0, ex1, ex2, ex3, ex4, ea0, ea1, ea2, ea3, ea4⟩ | go_keep)
    (first
      | (go_at_call 37; refine (to_side _ _ _ _ _ _ _ ps _ ((HP.out.below B5.out.drew (Nat.le_refl _)).more B5.out.size) HM.out r4).mono ?_; rintro e w6 ⟨A8, c8, rfl, o8, b6⟩; have Qa_6 := Lib.hid (Qa_5.out.drew.below b6 Qa_5.out.lt); have O4_6 := Lib.hid (O4_5.out.drew.below b6 (Nat.le_refl _)); have O6_6 := Lib.hid (O6_5.out.drew.below b6 (Nat.le_refl _)); have Qx_6 := Lib.hid (Qx_5.out.drew.below b6 Qx_5.out.lt); have O8_6 := Lib.hid o8; have B6 := Lib.hid (bstep B5.out.drew b6 B5.out.size); have le6 : w5.heap.size ≤ w6.heap.size := b6.size; have dx0 : w6.cell? ⟨w4.heap.size, 0, none⟩ = some (.int .i64 tag) := Qx_6.out.get 0 rfl; have dx1 : w6.cell? ⟨w4.heap.size, 1, none⟩ = some (.int .i64 st) := Qx_6.out.get 1 rfl; have dx2 : w6.cell? ⟨w4.heap.size, 2, none⟩ = some (.int .i64 fi) := Qx_6.out.get 2 rfl; have dx3 : w6.cell? ⟨w4.heap.size, 3, none⟩ = some (.slice A6 m c6) := Qx_6.out.get 3 rfl; have dx4 : w6.cell? ⟨w4.heap.size, 4, none⟩ = some (.int .i64 ac) := Qx_6.out.get 4 rfl; have da0 : w6.cell? ⟨w.heap.size, 0, none⟩ = some (.int .i64 tag) := Qa_6.out.get 0 rfl; have da1 : w6.cell? ⟨w.heap.size, 1, none⟩ = some (.int .i64 st) := Qa_6.out.get 1 rfl; have da2 : w6.cell? ⟨w.heap.size, 2, none⟩ = some (.int .i64 fi) := Qa_6.out.get 2 rfl; have da3 : w6.cell? ⟨w.heap.size, 3, none⟩ = some (.slice A m c) := Qa_6.out.get 3 rfl; have da4 : w6.cell? ⟨w.heap.size, 4, none⟩ = some (.int .i64 ac) := Qa_6.out.get 4 rfl; clear b6 o8)
      | (go_at_call 39; refine (eq_side _ _ _ _ _ _ _ _ _ ps _ O6_6.out.sl O8_6.out.sl HM.out hm2).mono ?_; rintro e w7 ⟨rfl, b7⟩; have ex0 : w7.cell? ⟨w4.heap.size, 0, none⟩ = some (.int .i64 tag) := (Qx_6.out.below b7 Qx_6.out.lt).get 0 rfl; have ex1 : w7.cell? ⟨w4.heap.size, 1, none⟩ = some (.int .i64 st) := (Qx_6.out.below b7 Qx_6.out.lt).get 1 rfl; have ex2 : w7.cell? ⟨w4.heap.size, 2, none⟩ = some (.int .i64 fi) := (Qx_6.out.below b7 Qx_6.out.lt).get 2 rfl; have ex3 : w7.cell? ⟨w4.heap.size, 3, none⟩ = some (.slice A6 m c6) := (Qx_6.out.below b7 Qx_6.out.lt).get 3 rfl; have ex4 : w7.cell? ⟨w4.heap.size, 4, none⟩ = some (.int .i64 ac) := (Qx_6.out.below b7 Qx_6.out.lt).get 4 rfl; have ea0 : w7.cell? ⟨w.heap.size, 0, none⟩ = some (.int .i64 tag) := (Qa_6.out.below b7 Qa_6.out.lt).get 0 rfl; have ea1 : w7.cell? ⟨w.heap.size, 1, none⟩ = some (.int .i64 st) := (Qa_6.out.below b7 Qa_6.out.lt).get 1 rfl; have ea2 : w7.cell? ⟨w.heap.size, 2, none⟩ = some (.int .i64 fi) := (Qa_6.out.below b7 Qa_6.out.lt).get 2 rfl; have ea3 : w7.cell? ⟨w.heap.size, 3, none⟩ = some (.slice A m c) := (Qa_6.out.below b7 Qa_6.out.lt).get 3 rfl; have ea4 : w7.cell? ⟨w.heap.size, 4, none⟩ = some (.int .i64 ac) := (Qa_6.out.below b7 Qa_6.out.lt).get 4 rfl; have BB7 := Lib.hid b7; clear b7))
  have b7 := BB7.out
  clear cx0 cx1 cx2 cx3 cx4 ca0 ca1 ca2 ca3 ca4 dx0 dx1 dx2 dx3 dx4 da0 da1 da2 da3 da4 ex0 ex1 ex2 ex3 ex4 ea0 ea1 ea2 ea3 ea4
  clear la lx
  have Qa_7 := Lib.hid (Qa_6.out.below b7 Qa_6.out.lt)
  have O4_7 := Lib.hid (O4_6.out.below b7 (Nat.le_refl _))
  have O6_7 := Lib.hid (O6_6.out.below b7 (Nat.le_refl _))
  have Qx_7 := Lib.hid (Qx_6.out.below b7 Qx_6.out.lt)
  have O8_7 := Lib.hid (O8_6.out.below b7 (Nat.le_refl _))
  have s7 := b7.size
  have B7 := Lib.hid (bstep B6.out b7 B6.out.size)
  have le7 : w6.heap.size ≤ w7.heap.size := by simpa using s7
  clear s7
  clear b7
  go_wp2
  go_ret
  exact ⟨rfl, B7.out⟩
end Go.Proofs.Ytgljbbdhhgamjaa
