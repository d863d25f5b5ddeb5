/-
  The walk of 'FnExactSideKnown'. Condition: the parts can be read.
-/
import Derived.Test.YtkhaodbcnnlhaaaKnown
import Derived.Test.YtkhaodbcnnlhaaaMark
import Derived.Test.YtkhaodbcnnlhaaaSideL
import Derived.Deep.RegionHeld3
namespace Go.Proofs.Ytkhaodbcnnlhaaa
open Go.ChangeShapes Go.WideShapes Go.ChangeAt Go.RowKit
set_option linter.unusedVariables false
set_option linter.unusedSimpArgs false
set_option maxHeartbeats 3200000 in
set_option maxRecDepth 100000 in
theorem walkFnExactSideKnown (tag st fi ac : Int) (A : Option Addr) (m c : Nat) (ps : List Dat) (w : World) (hp : Sl w w.heap.size A (dats ps)) (hm : ps.length = m) (hc2 : m ≤ c) (hm3 : c ≤ maxLen) (ht : Dats ps) :
    Calls Try.prog 5 #[.agg #[.int .i64 tag, .int .i64 st, .int .i64 fi, .slice A m c, .int .i64 ac]] w fun e w' => e = .returned (.bool true) ∧ Below w.heap.size w w' := by
  have HP := Lib.hid hp; have HM := Lib.hid hm; have HT := Lib.hid ht; clear hp hm ht
  have hm2 : m ≤ 9223372036854775807 := by unfold maxLen at hm3; omega
  clear hc2 hm3
  obtain ⟨l, hl⟩ : ∃ l, knownL tag st fi ac ps = l := ⟨_, rfl⟩
  have hn60 : l.length ≤ 12 := by rw [← hl]; exact known_len
  have HL := Lib.hid hl
  clear hl
  obtain ⟨n, hn⟩ : ∃ n, l.length = n := ⟨_, rfl⟩
  have HN := Lib.hid hn
  rw [hn] at hn60
  clear hn
  go_enter Try.func5, Try.ntmps5
  go_wp2_with fail
  refine (sz_side _ _ _ _ _ _ _ ps _ _ (by omega) ((HP.out.alloc (Nat.le_refl _) _).more (by simp)) HM.out hm2 HT.out).mono ?_
  rintro e w1 ⟨r, rfl, hr, b1'⟩
  obtain ⟨q1_0, z1, b1⟩ := boxed b1'
  have s1 := b1.size
  have B1 := Lib.hid b1
  have le1 : w.heap.size ≤ w1.heap.size := by simpa using s1
  clear s1
  have Qa_1 := Lib.hid q1_0
  clear b1 b1' q1_0
  have la : w.heap.size < w1.heap.size := Qa_1.out.lt
  have ca0 : w1.cell? ⟨w.heap.size, 0, none⟩ = some (.int .i64 tag) := Qa_1.out.get 0 rfl
  have ca1 : w1.cell? ⟨w.heap.size, 1, none⟩ = some (.int .i64 st) := Qa_1.out.get 1 rfl
  have ca2 : w1.cell? ⟨w.heap.size, 2, none⟩ = some (.int .i64 fi) := Qa_1.out.get 2 rfl
  have ca3 : w1.cell? ⟨w.heap.size, 3, none⟩ = some (.slice A m c) := Qa_1.out.get 3 rfl
  have ca4 : w1.cell? ⟨w.heap.size, 4, none⟩ = some (.int .i64 ac) := Qa_1.out.get 4 rfl
  rcases hr with rfl | ⟨r1, r2, r4⟩
  · go_wp2
    go_ret
    exact ⟨rfl, B1.out⟩
  have hr0 : ¬ r < 0 := by omega
  go_wp2_with fail
  refine (to_side _ _ _ _ _ _ _ ps _ ((HP.out.below B1.out (Nat.le_refl _)).more B1.out.size) HM.out r4).mono ?_
  rintro e w2 ⟨A3, c3, rfl, o3, b2⟩
  have k3 : m ≤ c3 ∧ c3 ≤ 9223372036854775807 := by have := o3.caps; unfold maxLen at this; exact this
  clear la ca0 ca1 ca2 ca3 ca4
  have Qa_2 := Lib.hid (Qa_1.out.below b2 Qa_1.out.lt)
  have s2 := b2.size
  have B2 := Lib.hid (bstep B1.out b2 B1.out.size)
  have le2 : w1.heap.size ≤ w2.heap.size := by simpa using s2
  clear s2
  have O3_2 := Lib.hid o3
  clear b2 o3
  go_wp2_with fail
  refine (sside_known _ _ _ _ _ _ _ ps HL.out _ O3_2.out.sl HM.out k3.1 k3.2 r4 HT.out).mono ?_
  rintro e w3 ⟨Aw, nw, cw, rfl, hlw, ow, b3⟩
  obtain rfl : n = nw := by rw [← hlw, HN.out]
  clear hlw
  have Qa_3 := Lib.hid (Qa_2.out.below b3 Qa_2.out.lt)
  have O3_3 := Lib.hid (O3_2.out.below b3 (Nat.le_refl _))
  have s3 := b3.size
  have B3 := Lib.hid (bstep B2.out b3 B2.out.size)
  have le3 : w2.heap.size ≤ w3.heap.size := by simpa using s3
  clear s3
  have Ow_3 := Lib.hid ow
  clear b3 ow
  have la : w.heap.size < w3.heap.size := Qa_3.out.lt
  have ca0 : w3.cell? ⟨w.heap.size, 0, none⟩ = some (.int .i64 tag) := Qa_3.out.get 0 rfl
  have ca1 : w3.cell? ⟨w.heap.size, 1, none⟩ = some (.int .i64 st) := Qa_3.out.get 1 rfl
  have ca2 : w3.cell? ⟨w.heap.size, 2, none⟩ = some (.int .i64 fi) := Qa_3.out.get 2 rfl
  have ca3 : w3.cell? ⟨w.heap.size, 3, none⟩ = some (.slice A m c) := Qa_3.out.get 3 rfl
  have ca4 : w3.cell? ⟨w.heap.size, 4, none⟩ = some (.int .i64 ac) := Qa_3.out.get 4 rfl
  go_wp2_with fail
  refine (to_side _ _ _ _ _ _ _ ps _ ((HP.out.below B3.out (Nat.le_refl _)).more B3.out.size) HM.out r4).mono ?_
  rintro e w4 ⟨A5, c5, rfl, o5, b4⟩
  have k5 : m ≤ c5 ∧ c5 ≤ 9223372036854775807 := by have := o5.caps; unfold maxLen at this; exact this
  clear la ca0 ca1 ca2 ca3 ca4
  have Qa_4 := Lib.hid (Qa_3.out.below b4 Qa_3.out.lt)
  have O3_4 := Lib.hid (O3_3.out.below b4 (Nat.le_refl _))
  have Ow_4 := Lib.hid (Ow_3.out.below b4 (Nat.le_refl _))
  have s4 := b4.size
  have B4 := Lib.hid (bstep B3.out b4 B3.out.size)
  have le4 : w3.heap.size ≤ w4.heap.size := by simpa using s4
  clear s4
  have O5_4 := Lib.hid o5
  clear b4 o5
  go_wp2_with fail
  refine (iside_known _ _ _ _ _ _ _ ps HL.out _ ((O5_4.out.sl.alloc (Nat.le_refl _) _).more (by simp)) HM.out k5.1 k5.2 r4 HT.out).mono ?_
  rintro e w5 ⟨Ag, ng, cg, rfl, hlg, og, b5'⟩
  obtain rfl : n = ng := by rw [← hlg, HN.out]
  clear hlg
  obtain ⟨q5_0, z5, b5⟩ := boxed b5'
  have Qa_5 := Lib.hid (Qa_4.out.below b5 Qa_4.out.lt)
  have O3_5 := Lib.hid (O3_4.out.below b5 (Nat.le_refl _))
  have Ow_5 := Lib.hid (Ow_4.out.below b5 (Nat.le_refl _))
  have O5_5 := Lib.hid (O5_4.out.below b5 (Nat.le_refl _))
  have s5 := b5.size
  have B5 := Lib.hid (bstep B4.out b5 B4.out.size)
  have le5 : w4.heap.size ≤ w5.heap.size := by simpa using s5
  clear s5
  have Qx_5 := Lib.hid q5_0
  have Og_5 := Lib.hid og
  clear b5 b5' q5_0 og
  go_wp2_with fail
  refine (eq_msgs _ _ _ _ _ l _ Og_5.out.sl Ow_5.out.sl HN.out (by omega)).mono ?_
  rintro e w6 ⟨rfl, b6⟩
  have Qa_6 := Lib.hid (Qa_5.out.below b6 Qa_5.out.lt)
  have O3_6 := Lib.hid (O3_5.out.below b6 (Nat.le_refl _))
  have Ow_6 := Lib.hid (Ow_5.out.below b6 (Nat.le_refl _))
  have O5_6 := Lib.hid (O5_5.out.below b6 (Nat.le_refl _))
  have Qx_6 := Lib.hid (Qx_5.out.below b6 Qx_5.out.lt)
  have Og_6 := Lib.hid (Og_5.out.below b6 (Nat.le_refl _))
  have s6 := b6.size
  have B6 := Lib.hid (bstep B5.out b6 B5.out.size)
  have le6 : w5.heap.size ≤ w6.heap.size := by simpa using s6
  clear s6
  clear b6
  have la : w.heap.size < w6.heap.size := Qa_6.out.lt
  have ca0 : w6.cell? ⟨w.heap.size, 0, none⟩ = some (.int .i64 tag) := Qa_6.out.get 0 rfl
  have ca1 : w6.cell? ⟨w.heap.size, 1, none⟩ = some (.int .i64 st) := Qa_6.out.get 1 rfl
  have ca2 : w6.cell? ⟨w.heap.size, 2, none⟩ = some (.int .i64 fi) := Qa_6.out.get 2 rfl
  have ca3 : w6.cell? ⟨w.heap.size, 3, none⟩ = some (.slice A m c) := Qa_6.out.get 3 rfl
  have ca4 : w6.cell? ⟨w.heap.size, 4, none⟩ = some (.int .i64 ac) := Qa_6.out.get 4 rfl
  have lx : w4.heap.size < w6.heap.size := Qx_6.out.lt
  have cx0 : w6.cell? ⟨w4.heap.size, 0, none⟩ = some (.int .i64 tag) := Qx_6.out.get 0 rfl
  have cx1 : w6.cell? ⟨w4.heap.size, 1, none⟩ = some (.int .i64 st) := Qx_6.out.get 1 rfl
  have cx2 : w6.cell? ⟨w4.heap.size, 2, none⟩ = some (.int .i64 fi) := Qx_6.out.get 2 rfl
  have cx3 : w6.cell? ⟨w4.heap.size, 3, none⟩ = some (.slice A5 m c5) := Qx_6.out.get 3 rfl
  have cx4 : w6.cell? ⟨w4.heap.size, 4, none⟩ = some (.int .i64 ac) := Qx_6.out.get 4 rfl
  go_wp2_with fail
  go_region_held3 (fun w' => w'.cell? ⟨w4.heap.size, 0, none⟩ = some (.int .i64 tag) ∧ w'.cell? ⟨w4.heap.size, 1, none⟩ = some (.int .i64 st) ∧ w'.cell? ⟨w4.heap.size, 2, none⟩ = some (.int .i64 fi) ∧ w'.cell? ⟨w4.heap.size, 3, none⟩ = some (.slice A5 m c5) ∧ w'.cell? ⟨w4.heap.size, 4, none⟩ = some (.int .i64 ac) ∧ w'.cell? ⟨w.heap.size, 0, none⟩ = some (.int .i64 tag) ∧ w'.cell? ⟨w.heap.size, 1, none⟩ = some (.int .i64 st) ∧ w'.cell? ⟨w.heap.size, 2, none⟩ = some (.int .i64 fi) ∧ w'.cell? ⟨w.heap.size, 3, none⟩ = some (.slice A m c) ∧ w'.cell? ⟨w.heap.size, 4, none⟩ = some (.int .i64 ac)) (first | exact ⟨cx0, cx1, cx2, cx3, cx4, ca0, ca1, ca2, ca3, ca4⟩ | exact ⟨dx0, dx1, dx2, dx3, dx4, da0, da1, da2, da3, da4⟩ | exact ⟨ex0, ex1, ex2, ex3, ex4, ea0, ea1, ea2, ea3, ea4⟩ | go_keep)
    (first
      | (go_at_call 26; refine (to_side _ _ _ _ _ _ _ ps _ ((HP.out.below B6.out.drew (Nat.le_refl _)).more B6.out.size) HM.out r4).mono ?_; rintro e w7 ⟨A7, c7, rfl, o7, b7⟩; have Qa_7 := Lib.hid (Qa_6.out.drew.below b7 Qa_6.out.lt); have O3_7 := Lib.hid (O3_6.out.drew.below b7 (Nat.le_refl _)); have Ow_7 := Lib.hid (Ow_6.out.drew.below b7 (Nat.le_refl _)); have O5_7 := Lib.hid (O5_6.out.drew.below b7 (Nat.le_refl _)); have Qx_7 := Lib.hid (Qx_6.out.drew.below b7 Qx_6.out.lt); have Og_7 := Lib.hid (Og_6.out.drew.below b7 (Nat.le_refl _)); have O7_7 := Lib.hid o7; have B7 := Lib.hid (bstep B6.out.drew b7 B6.out.size); have le7 : w6.heap.size ≤ w7.heap.size := b7.size; have dx0 : w7.cell? ⟨w4.heap.size, 0, none⟩ = some (.int .i64 tag) := Qx_7.out.get 0 rfl; have dx1 : w7.cell? ⟨w4.heap.size, 1, none⟩ = some (.int .i64 st) := Qx_7.out.get 1 rfl; have dx2 : w7.cell? ⟨w4.heap.size, 2, none⟩ = some (.int .i64 fi) := Qx_7.out.get 2 rfl; have dx3 : w7.cell? ⟨w4.heap.size, 3, none⟩ = some (.slice A5 m c5) := Qx_7.out.get 3 rfl; have dx4 : w7.cell? ⟨w4.heap.size, 4, none⟩ = some (.int .i64 ac) := Qx_7.out.get 4 rfl; have da0 : w7.cell? ⟨w.heap.size, 0, none⟩ = some (.int .i64 tag) := Qa_7.out.get 0 rfl; have da1 : w7.cell? ⟨w.heap.size, 1, none⟩ = some (.int .i64 st) := Qa_7.out.get 1 rfl; have da2 : w7.cell? ⟨w.heap.size, 2, none⟩ = some (.int .i64 fi) := Qa_7.out.get 2 rfl; have da3 : w7.cell? ⟨w.heap.size, 3, none⟩ = some (.slice A m c) := Qa_7.out.get 3 rfl; have da4 : w7.cell? ⟨w.heap.size, 4, none⟩ = some (.int .i64 ac) := Qa_7.out.get 4 rfl; clear b7 o7)
      | (go_at_call 28; refine (eq_side _ _ _ _ _ _ _ _ _ ps _ O5_7.out.sl O7_7.out.sl HM.out hm2).mono ?_; rintro e w8 ⟨rfl, b8⟩; have ex0 : w8.cell? ⟨w4.heap.size, 0, none⟩ = some (.int .i64 tag) := (Qx_7.out.below b8 Qx_7.out.lt).get 0 rfl; have ex1 : w8.cell? ⟨w4.heap.size, 1, none⟩ = some (.int .i64 st) := (Qx_7.out.below b8 Qx_7.out.lt).get 1 rfl; have ex2 : w8.cell? ⟨w4.heap.size, 2, none⟩ = some (.int .i64 fi) := (Qx_7.out.below b8 Qx_7.out.lt).get 2 rfl; have ex3 : w8.cell? ⟨w4.heap.size, 3, none⟩ = some (.slice A5 m c5) := (Qx_7.out.below b8 Qx_7.out.lt).get 3 rfl; have ex4 : w8.cell? ⟨w4.heap.size, 4, none⟩ = some (.int .i64 ac) := (Qx_7.out.below b8 Qx_7.out.lt).get 4 rfl; have ea0 : w8.cell? ⟨w.heap.size, 0, none⟩ = some (.int .i64 tag) := (Qa_7.out.below b8 Qa_7.out.lt).get 0 rfl; have ea1 : w8.cell? ⟨w.heap.size, 1, none⟩ = some (.int .i64 st) := (Qa_7.out.below b8 Qa_7.out.lt).get 1 rfl; have ea2 : w8.cell? ⟨w.heap.size, 2, none⟩ = some (.int .i64 fi) := (Qa_7.out.below b8 Qa_7.out.lt).get 2 rfl; have ea3 : w8.cell? ⟨w.heap.size, 3, none⟩ = some (.slice A m c) := (Qa_7.out.below b8 Qa_7.out.lt).get 3 rfl; have ea4 : w8.cell? ⟨w.heap.size, 4, none⟩ = some (.int .i64 ac) := (Qa_7.out.below b8 Qa_7.out.lt).get 4 rfl; have BB8 := Lib.hid b8; clear b8))
  have b8 := BB8.out
  clear cx0 cx1 cx2 cx3 cx4 ca0 ca1 ca2 ca3 ca4 dx0 dx1 dx2 dx3 dx4 da0 da1 da2 da3 da4 ex0 ex1 ex2 ex3 ex4 ea0 ea1 ea2 ea3 ea4
  clear la lx
  have Qa_8 := Lib.hid (Qa_7.out.below b8 Qa_7.out.lt)
  have O3_8 := Lib.hid (O3_7.out.below b8 (Nat.le_refl _))
  have Ow_8 := Lib.hid (Ow_7.out.below b8 (Nat.le_refl _))
  have O5_8 := Lib.hid (O5_7.out.below b8 (Nat.le_refl _))
  have Qx_8 := Lib.hid (Qx_7.out.below b8 Qx_7.out.lt)
  have Og_8 := Lib.hid (Og_7.out.below b8 (Nat.le_refl _))
  have O7_8 := Lib.hid (O7_7.out.below b8 (Nat.le_refl _))
  have s8 := b8.size
  have B8 := Lib.hid (bstep B7.out b8 B7.out.size)
  have le8 : w7.heap.size ≤ w8.heap.size := by simpa using s8
  clear s8
  clear b8
  have lx : w4.heap.size < w8.heap.size := Qx_8.out.lt
  have cx0 : w8.cell? ⟨w4.heap.size, 0, none⟩ = some (.int .i64 tag) := Qx_8.out.get 0 rfl
  have cx1 : w8.cell? ⟨w4.heap.size, 1, none⟩ = some (.int .i64 st) := Qx_8.out.get 1 rfl
  have cx2 : w8.cell? ⟨w4.heap.size, 2, none⟩ = some (.int .i64 fi) := Qx_8.out.get 2 rfl
  have cx3 : w8.cell? ⟨w4.heap.size, 3, none⟩ = some (.slice A5 m c5) := Qx_8.out.get 3 rfl
  have cx4 : w8.cell? ⟨w4.heap.size, 4, none⟩ = some (.int .i64 ac) := Qx_8.out.get 4 rfl
  go_wp2_with fail
  refine (mark_side _ _ _ _ _ _ _ 1 _ ps _ O5_8.out (by omega) r4).mono ?_
  rintro e w9 ⟨rfl, o9, row9, g9, r9⟩
  clear lx cx0 cx1 cx2 cx3 cx4
  have Qa_9 := Lib.hid (blk_marked Qa_8.out O5_8.out (by decide) g9 r9)
  have O3_9 := Lib.hid (own_marked O3_8.out O5_8.out g9 r9 (fun a b ha hb => by
    have p1 := O5_4.out.blk a ha
    have p2 := O3_2.out.blk b hb
    try simp only [World.size_alloc, World.size_drew] at p1 p2
    omega))
  have Ow_9 := Lib.hid (own_marked Ow_8.out O5_8.out g9 r9 (fun a b ha hb => by
    have p1 := O5_4.out.blk a ha
    have p2 := Ow_3.out.blk b hb
    try simp only [World.size_alloc, World.size_drew] at p1 p2
    omega))
  have O5_9 := Lib.hid o9
  have Qx_9 := Lib.hid (blk_marked Qx_8.out O5_8.out (by decide) g9 r9)
  have Og_9 := Lib.hid (own_marked Og_8.out O5_8.out g9 r9 (fun a b ha hb => by
    have p1 := O5_4.out.blk a ha
    have p2 := Og_5.out.blk b hb
    try simp only [World.size_alloc, World.size_drew] at p1 p2
    omega))
  have O7_9 := Lib.hid (own_marked O7_8.out O5_8.out g9 r9 (fun a b ha hb => by
    have p1 := O5_4.out.blk a ha
    have p2 := O7_7.out.blk b hb
    try simp only [World.size_alloc, World.size_drew] at p1 p2
    omega))
  have le9 : w8.heap.size ≤ w9.heap.size := g9.size
  have B9 := Lib.hid (below_marked B8.out O5_8.out (by (try simp only [World.size_alloc, World.size_drew]); omega) g9 r9)
  clear o9 g9 r9
  have hk0 : ¬ (((1 + 7 * m : Nat) : Int)) < 0 := by omega
  go_wp2_with fail
  refine (eq_msgs _ _ _ _ _ l _ Og_9.out.sl Ow_9.out.sl HN.out (by omega)).mono ?_
  rintro e w10 ⟨rfl, b10⟩
  have Qa_10 := Lib.hid (Qa_9.out.below b10 Qa_9.out.lt)
  have O3_10 := Lib.hid (O3_9.out.below b10 (Nat.le_refl _))
  have Ow_10 := Lib.hid (Ow_9.out.below b10 (Nat.le_refl _))
  have O5_10 := Lib.hid (O5_9.out.below b10 (Nat.le_refl _))
  have Qx_10 := Lib.hid (Qx_9.out.below b10 Qx_9.out.lt)
  have Og_10 := Lib.hid (Og_9.out.below b10 (Nat.le_refl _))
  have O7_10 := Lib.hid (O7_9.out.below b10 (Nat.le_refl _))
  have s10 := b10.size
  have B10 := Lib.hid (bstep B9.out b10 B9.out.size)
  have le10 : w9.heap.size ≤ w10.heap.size := by simpa using s10
  clear s10
  clear b10
  go_wp2_with fail
  refine (mark_msgs _ _ _ 1 _ l _ Og_10.out (by omega) (by omega)).mono ?_
  rintro e w11 ⟨rfl, o11, row11, g11, r11⟩
  have Qa_11 := Lib.hid (blk_marked Qa_10.out Og_10.out (by decide) g11 r11)
  have O3_11 := Lib.hid (own_marked O3_10.out Og_10.out g11 r11 (fun a b ha hb => by
    have p1 := Og_5.out.blk a ha
    have p2 := O3_2.out.blk b hb
    try simp only [World.size_alloc, World.size_drew] at p1 p2
    omega))
  have Ow_11 := Lib.hid (own_marked Ow_10.out Og_10.out g11 r11 (fun a b ha hb => by
    have p1 := Og_5.out.blk a ha
    have p2 := Ow_3.out.blk b hb
    try simp only [World.size_alloc, World.size_drew] at p1 p2
    omega))
  have O5_11 := Lib.hid (own_marked O5_10.out Og_10.out g11 r11 (fun a b ha hb => by
    have p1 := Og_5.out.blk a ha
    have p2 := O5_4.out.blk b hb
    try simp only [World.size_alloc, World.size_drew] at p1 p2
    omega))
  have Qx_11 := Lib.hid (blk_marked Qx_10.out Og_10.out (by decide) g11 r11)
  have Og_11 := Lib.hid o11
  have O7_11 := Lib.hid (own_marked O7_10.out Og_10.out g11 r11 (fun a b ha hb => by
    have p1 := Og_5.out.blk a ha
    have p2 := O7_7.out.blk b hb
    try simp only [World.size_alloc, World.size_drew] at p1 p2
    omega))
  have le11 : w10.heap.size ≤ w11.heap.size := g11.size
  have B11 := Lib.hid (below_marked B10.out Og_10.out (by (try simp only [World.size_alloc, World.size_drew]); omega) g11 r11)
  clear o11 g11 r11
  have hk1 : ¬ (((1 + 4 * n : Nat) : Int)) < 0 := by omega
  go_wp2_with fail
  refine (held_msgs _ _ _ 1 _ Og_11.out.sl (by omega) (by omega)).mono ?_
  rintro e w12 ⟨rfl, b12⟩
  have Qa_12 := Lib.hid (Qa_11.out.below b12 Qa_11.out.lt)
  have O3_12 := Lib.hid (O3_11.out.below b12 (Nat.le_refl _))
  have Ow_12 := Lib.hid (Ow_11.out.below b12 (Nat.le_refl _))
  have O5_12 := Lib.hid (O5_11.out.below b12 (Nat.le_refl _))
  have Qx_12 := Lib.hid (Qx_11.out.below b12 Qx_11.out.lt)
  have Og_12 := Lib.hid (Og_11.out.below b12 (Nat.le_refl _))
  have O7_12 := Lib.hid (O7_11.out.below b12 (Nat.le_refl _))
  have s12 := b12.size
  have B12 := Lib.hid (bstep B11.out b12 B11.out.size)
  have le12 : w11.heap.size ≤ w12.heap.size := by simpa using s12
  clear s12
  clear b12
  have la : w.heap.size < w12.heap.size := Qa_12.out.lt
  have ca0 : w12.cell? ⟨w.heap.size, 0, none⟩ = some (.int .i64 tag) := Qa_12.out.get 0 rfl
  have ca1 : w12.cell? ⟨w.heap.size, 1, none⟩ = some (.int .i64 st) := Qa_12.out.get 1 rfl
  have ca2 : w12.cell? ⟨w.heap.size, 2, none⟩ = some (.int .i64 fi) := Qa_12.out.get 2 rfl
  have ca3 : w12.cell? ⟨w.heap.size, 3, none⟩ = some (.slice A m c) := Qa_12.out.get 3 rfl
  have ca4 : w12.cell? ⟨w.heap.size, 4, none⟩ = some (.int .i64 ac) := Qa_12.out.get 4 rfl
  go_wp2_with fail
  refine (to_side _ _ _ _ _ _ _ ps _ ((HP.out.below B12.out (Nat.le_refl _)).more B12.out.size) HM.out r4).mono ?_
  rintro e w13 ⟨A6, c6, rfl, o6, b13⟩
  have k6 : m ≤ c6 ∧ c6 ≤ 9223372036854775807 := by have := o6.caps; unfold maxLen at this; exact this
  clear la ca0 ca1 ca2 ca3 ca4
  have Qa_13 := Lib.hid (Qa_12.out.below b13 Qa_12.out.lt)
  have O3_13 := Lib.hid (O3_12.out.below b13 (Nat.le_refl _))
  have Ow_13 := Lib.hid (Ow_12.out.below b13 (Nat.le_refl _))
  have O5_13 := Lib.hid (O5_12.out.below b13 (Nat.le_refl _))
  have Qx_13 := Lib.hid (Qx_12.out.below b13 Qx_12.out.lt)
  have Og_13 := Lib.hid (Og_12.out.below b13 (Nat.le_refl _))
  have O7_13 := Lib.hid (O7_12.out.below b13 (Nat.le_refl _))
  have s13 := b13.size
  have B13 := Lib.hid (bstep B12.out b13 B12.out.size)
  have le13 : w12.heap.size ≤ w13.heap.size := by simpa using s13
  clear s13
  have O6_13 := Lib.hid o6
  clear b13 o6
  go_wp2_with fail
  refine (iside_known _ _ _ _ _ _ _ ps HL.out _ O6_13.out.sl HM.out k6.1 k6.2 r4 HT.out).mono ?_
  rintro e w14 ⟨Ah, nh, ch, rfl, hlh, oh, b14⟩
  obtain rfl : n = nh := by rw [← hlh, HN.out]
  clear hlh
  have Qa_14 := Lib.hid (Qa_13.out.below b14 Qa_13.out.lt)
  have O3_14 := Lib.hid (O3_13.out.below b14 (Nat.le_refl _))
  have Ow_14 := Lib.hid (Ow_13.out.below b14 (Nat.le_refl _))
  have O5_14 := Lib.hid (O5_13.out.below b14 (Nat.le_refl _))
  have Qx_14 := Lib.hid (Qx_13.out.below b14 Qx_13.out.lt)
  have Og_14 := Lib.hid (Og_13.out.below b14 (Nat.le_refl _))
  have O7_14 := Lib.hid (O7_13.out.below b14 (Nat.le_refl _))
  have O6_14 := Lib.hid (O6_13.out.below b14 (Nat.le_refl _))
  have s14 := b14.size
  have B14 := Lib.hid (bstep B13.out b14 B13.out.size)
  have le14 : w13.heap.size ≤ w14.heap.size := by simpa using s14
  clear s14
  have Oh_14 := Lib.hid oh
  clear b14 oh
  go_wp2_with fail
  refine (eq_msgs _ _ _ _ _ l _ Oh_14.out.sl Ow_14.out.sl HN.out (by omega)).mono ?_
  rintro e w15 ⟨rfl, b15⟩
  have Qa_15 := Lib.hid (Qa_14.out.below b15 Qa_14.out.lt)
  have O3_15 := Lib.hid (O3_14.out.below b15 (Nat.le_refl _))
  have Ow_15 := Lib.hid (Ow_14.out.below b15 (Nat.le_refl _))
  have O5_15 := Lib.hid (O5_14.out.below b15 (Nat.le_refl _))
  have Qx_15 := Lib.hid (Qx_14.out.below b15 Qx_14.out.lt)
  have Og_15 := Lib.hid (Og_14.out.below b15 (Nat.le_refl _))
  have O7_15 := Lib.hid (O7_14.out.below b15 (Nat.le_refl _))
  have O6_15 := Lib.hid (O6_14.out.below b15 (Nat.le_refl _))
  have Oh_15 := Lib.hid (Oh_14.out.below b15 (Nat.le_refl _))
  have s15 := b15.size
  have B15 := Lib.hid (bstep B14.out b15 B14.out.size)
  have le15 : w14.heap.size ≤ w15.heap.size := by simpa using s15
  clear s15
  clear b15
  go_wp2_with fail
  refine (held_msgs _ _ _ 1 _ Og_15.out.sl (by omega) (by omega)).mono ?_
  rintro e w16 ⟨rfl, b16⟩
  have Qa_16 := Lib.hid (Qa_15.out.below b16 Qa_15.out.lt)
  have O3_16 := Lib.hid (O3_15.out.below b16 (Nat.le_refl _))
  have Ow_16 := Lib.hid (Ow_15.out.below b16 (Nat.le_refl _))
  have O5_16 := Lib.hid (O5_15.out.below b16 (Nat.le_refl _))
  have Qx_16 := Lib.hid (Qx_15.out.below b16 Qx_15.out.lt)
  have Og_16 := Lib.hid (Og_15.out.below b16 (Nat.le_refl _))
  have O7_16 := Lib.hid (O7_15.out.below b16 (Nat.le_refl _))
  have O6_16 := Lib.hid (O6_15.out.below b16 (Nat.le_refl _))
  have Oh_16 := Lib.hid (Oh_15.out.below b16 (Nat.le_refl _))
  have s16 := b16.size
  have B16 := Lib.hid (bstep B15.out b16 B15.out.size)
  have le16 : w15.heap.size ≤ w16.heap.size := by simpa using s16
  clear s16
  clear b16
  go_wp2
  go_ret
  exact ⟨rfl, B16.out⟩
end Go.Proofs.Ytkhaodbcnnlhaaa
