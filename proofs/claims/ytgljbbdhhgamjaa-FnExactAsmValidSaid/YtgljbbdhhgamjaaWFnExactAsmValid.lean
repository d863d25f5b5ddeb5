/-
  The walk of 'FnExactAsmValid'. Condition: the lists can be read.
-/
import Derived.Test.YtgljbbdhhgamjaaAsmV
import Derived.Test.YtgljbbdhhgamjaaAsmL
import Derived.Deep.RegionHeld3
namespace Go.Proofs.Ytgljbbdhhgamjaa
open Go.ChangeShapes Go.WideShapes Go.ChangeAt Go.RowKit
set_option linter.unusedVariables false
set_option linter.unusedSimpArgs false
set_option maxHeartbeats 1600000 in
theorem walkFnExactAsmValid (A : Option Addr) (n c : Nat) (zs : List Int) (A2 : Option Addr) (m d : Nat) (ps : List Dat) (w : World) (hs : Sl w w.heap.size A (ints zs)) (hn : zs.length = n) (hc1 : n ≤ c) (hm1 : c ≤ maxLen) (hp : Sl w w.heap.size A2 (dats ps)) (hm : ps.length = m) (hc2 : m ≤ d) (hm3 : d ≤ maxLen) (ht : Dats ps) :
    Calls Try.prog 7 #[.agg #[.slice A n c, .slice A2 m d]] w fun e w' => e = .returned (.bool true) ∧ Below w.heap.size w w' := by
  have HS := Lib.hid hs; have HN := Lib.hid hn; have HP := Lib.hid hp; have HM := Lib.hid hm; have HT := Lib.hid ht; clear hs hn hp hm ht
  have hn2 : n ≤ 9223372036854775807 := by unfold maxLen at hm1; omega
  have hm2 : m ≤ 9223372036854775807 := by unfold maxLen at hm3; omega
  clear hc1 hm1 hc2 hm3
  go_enter Try.func7, Try.ntmps7
  go_wp2_with fail
  refine (sz_asm _ _ _ _ _ _ ps _ ((HP.out.alloc (Nat.le_refl _) _).more (by simp)) HM.out hn2 hm2 HT.out).mono ?_
  rintro e w1 ⟨r, rfl, hr, b1'⟩
  obtain ⟨q1_0, z1, b1⟩ := boxed b1'
  have s1 := b1.size
  have B1 := Lib.hid b1
  have le1 : w.heap.size ≤ w1.heap.size := by simpa using s1
  clear s1
  have Qa_1 := Lib.hid q1_0
  clear b1 b1' q1_0
  have la : w.heap.size < w1.heap.size := Qa_1.out.lt
  have ca0 : w1.cell? ⟨w.heap.size, 0, none⟩ = some (.slice A n c) := Qa_1.out.get 0 rfl
  have ca1 : w1.cell? ⟨w.heap.size, 1, none⟩ = some (.slice A2 m d) := Qa_1.out.get 1 rfl
  rcases hr with rfl | ⟨r1, r2, r3, r4⟩
  · go_wp2
    go_ret
    exact ⟨rfl, B1.out⟩
  have hr0 : ¬ r < 0 := by omega
  go_wp2_with fail
  refine (to_asm _ _ _ zs _ _ _ ps _ ((HS.out.below B1.out (Nat.le_refl _)).more B1.out.size) ((HP.out.below B1.out (Nat.le_refl _)).more B1.out.size) HN.out HM.out r3 r4).mono ?_
  rintro e w2 ⟨A3, c3, A4, c4, rfl, o3, o4, b2⟩
  have k4 : m ≤ c4 ∧ c4 ≤ 9223372036854775807 := by have := o4.caps; unfold maxLen at this; exact this
  clear la ca0 ca1
  have Qa_2 := Lib.hid (Qa_1.out.below b2 Qa_1.out.lt)
  have s2 := b2.size
  have B2 := Lib.hid (bstep B1.out b2 B1.out.size)
  have le2 : w1.heap.size ≤ w2.heap.size := by simpa using s2
  clear s2
  have O3_2 := Lib.hid o3
  have O4_2 := Lib.hid o4
  clear b2 o3 o4
  go_wp2_with fail
  refine (sasm_valid _ _ _ zs _ _ _ ps _ O3_2.out.sl O4_2.out.sl HN.out HM.out hn2 k4.1 k4.2 HT.out).mono ?_
  rintro e w3 ⟨rfl, b3⟩
  have Qa_3 := Lib.hid (Qa_2.out.below b3 Qa_2.out.lt)
  have O3_3 := Lib.hid (O3_2.out.below b3 (Nat.le_refl _))
  have O4_3 := Lib.hid (O4_2.out.below b3 (Nat.le_refl _))
  have s3 := b3.size
  have B3 := Lib.hid (bstep B2.out b3 B2.out.size)
  have le3 : w2.heap.size ≤ w3.heap.size := by simpa using s3
  clear s3
  clear b3
  have la : w.heap.size < w3.heap.size := Qa_3.out.lt
  have ca0 : w3.cell? ⟨w.heap.size, 0, none⟩ = some (.slice A n c) := Qa_3.out.get 0 rfl
  have ca1 : w3.cell? ⟨w.heap.size, 1, none⟩ = some (.slice A2 m d) := Qa_3.out.get 1 rfl
  go_wp2_with fail
  refine (to_asm _ _ _ zs _ _ _ ps _ ((HS.out.below B3.out (Nat.le_refl _)).more B3.out.size) ((HP.out.below B3.out (Nat.le_refl _)).more B3.out.size) HN.out HM.out r3 r4).mono ?_
  rintro e w4 ⟨A5, c5, A6, c6, rfl, o5, o6, b4⟩
  have k6 : m ≤ c6 ∧ c6 ≤ 9223372036854775807 := by have := o6.caps; unfold maxLen at this; exact this
  clear la ca0 ca1
  have Qa_4 := Lib.hid (Qa_3.out.below b4 Qa_3.out.lt)
  have O3_4 := Lib.hid (O3_3.out.below b4 (Nat.le_refl _))
  have O4_4 := Lib.hid (O4_3.out.below b4 (Nat.le_refl _))
  have s4 := b4.size
  have B4 := Lib.hid (bstep B3.out b4 B3.out.size)
  have le4 : w3.heap.size ≤ w4.heap.size := by simpa using s4
  clear s4
  have O5_4 := Lib.hid o5
  have O6_4 := Lib.hid o6
  clear b4 o5 o6
  go_wp2_with fail
  refine (iasm_valid _ _ _ zs _ _ _ ps _ ((O5_4.out.sl.alloc (Nat.le_refl _) _).more (by simp)) ((O6_4.out.sl.alloc (Nat.le_refl _) _).more (by simp)) HN.out HM.out hn2 k6.1 k6.2 HT.out).mono ?_
  rintro e w5 ⟨rfl, b5'⟩
  obtain ⟨q5_0, z5, b5⟩ := boxed b5'
  have Qa_5 := Lib.hid (Qa_4.out.below b5 Qa_4.out.lt)
  have O3_5 := Lib.hid (O3_4.out.below b5 (Nat.le_refl _))
  have O4_5 := Lib.hid (O4_4.out.below b5 (Nat.le_refl _))
  have O5_5 := Lib.hid (O5_4.out.below b5 (Nat.le_refl _))
  have O6_5 := Lib.hid (O6_4.out.below b5 (Nat.le_refl _))
  have s5 := b5.size
  have B5 := Lib.hid (bstep B4.out b5 B4.out.size)
  have le5 : w4.heap.size ≤ w5.heap.size := by simpa using s5
  clear s5
  have Qx_5 := Lib.hid q5_0
  clear b5 b5' q5_0
  have la : w.heap.size < w5.heap.size := Qa_5.out.lt
  have ca0 : w5.cell? ⟨w.heap.size, 0, none⟩ = some (.slice A n c) := Qa_5.out.get 0 rfl
  have ca1 : w5.cell? ⟨w.heap.size, 1, none⟩ = some (.slice A2 m d) := Qa_5.out.get 1 rfl
  have lx : w4.heap.size < w5.heap.size := Qx_5.out.lt
  have cx0 : w5.cell? ⟨w4.heap.size, 0, none⟩ = some (.slice A5 n c5) := Qx_5.out.get 0 rfl
  have cx1 : w5.cell? ⟨w4.heap.size, 1, none⟩ = some (.slice A6 m c6) := Qx_5.out.get 1 rfl
  go_wp2_with fail
  go_region_held3 (fun w' => w'.cell? ⟨w4.heap.size, 0, none⟩ = some (.slice A5 n c5) ∧ w'.cell? ⟨w4.heap.size, 1, none⟩ = some (.slice A6 m c6) ∧ w'.cell? ⟨w.heap.size, 0, none⟩ = some (.slice A n c) ∧ w'.cell? ⟨w.heap.size, 1, none⟩ = some (.slice A2 m d)) (first | exact ⟨cx0, cx1, ca0, ca1⟩ | exact ⟨dx0, dx1, da0, da1⟩ | exact ⟨ex0, ex1, ea0, ea1⟩ | go_keep)
    (first
      | (go_at_call 28; refine (to_asm _ _ _ zs _ _ _ ps _ ((HS.out.below B5.out.drew (Nat.le_refl _)).more B5.out.size) ((HP.out.below B5.out.drew (Nat.le_refl _)).more B5.out.size) HN.out HM.out r3 r4).mono ?_; rintro e w6 ⟨A7, c7, A8, c8, rfl, o7, o8, b6⟩; have Qa_6 := Lib.hid (Qa_5.out.drew.below b6 Qa_5.out.lt); have O3_6 := Lib.hid (O3_5.out.drew.below b6 (Nat.le_refl _)); have O4_6 := Lib.hid (O4_5.out.drew.below b6 (Nat.le_refl _)); have O5_6 := Lib.hid (O5_5.out.drew.below b6 (Nat.le_refl _)); have O6_6 := Lib.hid (O6_5.out.drew.below b6 (Nat.le_refl _)); have Qx_6 := Lib.hid (Qx_5.out.drew.below b6 Qx_5.out.lt); have O7_6 := Lib.hid o7; have O8_6 := Lib.hid o8; have B6 := Lib.hid (bstep B5.out.drew b6 B5.out.size); have le6 : w5.heap.size ≤ w6.heap.size := b6.size; have dx0 : w6.cell? ⟨w4.heap.size, 0, none⟩ = some (.slice A5 n c5) := Qx_6.out.get 0 rfl; have dx1 : w6.cell? ⟨w4.heap.size, 1, none⟩ = some (.slice A6 m c6) := Qx_6.out.get 1 rfl; have da0 : w6.cell? ⟨w.heap.size, 0, none⟩ = some (.slice A n c) := Qa_6.out.get 0 rfl; have da1 : w6.cell? ⟨w.heap.size, 1, none⟩ = some (.slice A2 m d) := Qa_6.out.get 1 rfl; clear b6 o7 o8)
      | (go_at_call 31; refine (eq_asm _ _ _ _ _ zs _ _ _ _ _ ps _ O5_6.out.sl O7_6.out.sl O6_6.out.sl O8_6.out.sl HN.out HM.out hn2 hm2).mono ?_; rintro e w7 ⟨rfl, b7⟩; have ex0 : w7.cell? ⟨w4.heap.size, 0, none⟩ = some (.slice A5 n c5) := (Qx_6.out.below b7 Qx_6.out.lt).get 0 rfl; have ex1 : w7.cell? ⟨w4.heap.size, 1, none⟩ = some (.slice A6 m c6) := (Qx_6.out.below b7 Qx_6.out.lt).get 1 rfl; have ea0 : w7.cell? ⟨w.heap.size, 0, none⟩ = some (.slice A n c) := (Qa_6.out.below b7 Qa_6.out.lt).get 0 rfl; have ea1 : w7.cell? ⟨w.heap.size, 1, none⟩ = some (.slice A2 m d) := (Qa_6.out.below b7 Qa_6.out.lt).get 1 rfl; have BB7 := Lib.hid b7; clear b7))
  have b7 := BB7.out
  clear cx0 cx1 ca0 ca1 dx0 dx1 da0 da1 ex0 ex1 ea0 ea1
  clear la lx
  have Qa_7 := Lib.hid (Qa_6.out.below b7 Qa_6.out.lt)
  have O3_7 := Lib.hid (O3_6.out.below b7 (Nat.le_refl _))
  have O4_7 := Lib.hid (O4_6.out.below b7 (Nat.le_refl _))
  have O5_7 := Lib.hid (O5_6.out.below b7 (Nat.le_refl _))
  have O6_7 := Lib.hid (O6_6.out.below b7 (Nat.le_refl _))
  have Qx_7 := Lib.hid (Qx_6.out.below b7 Qx_6.out.lt)
  have O7_7 := Lib.hid (O7_6.out.below b7 (Nat.le_refl _))
  have O8_7 := Lib.hid (O8_6.out.below b7 (Nat.le_refl _))
  have s7 := b7.size
  have B7 := Lib.hid (bstep B6.out b7 B6.out.size)
  have le7 : w6.heap.size ≤ w7.heap.size := by simpa using s7
  clear s7
  clear b7
  go_wp2
  go_ret
  exact ⟨rfl, B7.out⟩
end Go.Proofs.Ytgljbbdhhgamjaa
