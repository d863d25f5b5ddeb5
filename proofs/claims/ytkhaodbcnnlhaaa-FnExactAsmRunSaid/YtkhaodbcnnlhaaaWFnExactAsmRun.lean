/-
  The walk of 'FnExactAsmRun'. Condition: the parts can be read.
-/
import Derived.Test.YtkhaodbcnnlhaaaRunI
import Derived.Test.YtkhaodbcnnlhaaaRunS
import Derived.Test.YtkhaodbcnnlhaaaMark
namespace Go.Proofs.Ytkhaodbcnnlhaaa
open Go.ChangeShapes Go.WideShapes Go.ChangeAt Go.RowKit
set_option linter.unusedVariables false
set_option linter.unusedSimpArgs false
set_option maxHeartbeats 3200000 in
set_option maxRecDepth 100000 in
theorem walkFnExactAsmRun (sn : Int) (A : Option Addr) (m c : Nat) (ps : List Dat) (w : World) (hsn : -9223372036854775808 ≤ sn ∧ sn ≤ 9223372036854775807) (hp : Sl w w.heap.size A (dats ps)) (hm : ps.length = m) (hc2 : m ≤ c) (hm3 : c ≤ maxLen) (ht : Dats ps) :
    Calls Try.prog 3 #[.int .i64 sn, .slice A m c] w fun e w' => e = .returned (.bool true) ∧ Below w.heap.size w w' := by
  have HP := Lib.hid hp; have HM := Lib.hid hm; have HT := Lib.hid ht; clear hp hm ht
  have hm2 : m ≤ 9223372036854775807 := by unfold maxLen at hm3; omega
  clear hc2 hm3 hsn
  obtain ⟨l, hl⟩ : ∃ l, runM sn ps = l := ⟨_, rfl⟩
  have hlen : l.length ≤ m := by rw [← hl, ← HM.out]; exact runM_len sn ps
  have HL := Lib.hid hl
  clear hl
  obtain ⟨n, hn⟩ : ∃ n, l.length = n := ⟨_, rfl⟩
  have HN := Lib.hid hn
  rw [hn] at hlen
  clear hn
  go_enter Try.func3, Try.ntmps3
  go_wp2_with fail
  refine (sz_dats _ _ _ ps _ _ (by omega) HP.out HM.out hm2 HT.out).mono ?_
  rintro e w1 ⟨r, rfl, hr, b1⟩
  have s1 := b1.size
  have B1 := Lib.hid b1
  have le1 : w.heap.size ≤ w1.heap.size := by simpa using s1
  clear s1
  clear b1
  rcases hr with rfl | ⟨r1, r2, r4⟩
  · go_wp2
    go_ret
    exact ⟨rfl, B1.out⟩
  have hr0 : ¬ r < 0 := by omega
  have hn60 : n ≤ 1048576 := by omega
  go_wp2_with fail
  refine (to_dats _ _ _ ps _ ((HP.out.below B1.out (Nat.le_refl _)).more B1.out.size) HM.out r4).mono ?_
  rintro e w2 ⟨A3, c3, rfl, o3, b2⟩
  have s2 := b2.size
  have B2 := Lib.hid (bstep B1.out b2 B1.out.size)
  have le2 : w1.heap.size ≤ w2.heap.size := by simpa using s2
  clear s2
  have O3_2 := Lib.hid o3
  clear b2 o3
  go_wp2_with fail
  refine (sasm_run _ _ _ _ ps HL.out _ O3_2.out.sl HM.out r4 HT.out).mono ?_
  rintro e w3 ⟨Aw, nw, cw, rfl, hlw, ow, b3⟩
  obtain rfl : n = nw := by rw [← hlw, HN.out]
  clear hlw
  have O3_3 := Lib.hid (O3_2.out.below b3 (Nat.le_refl _))
  have s3 := b3.size
  have B3 := Lib.hid (bstep B2.out b3 B2.out.size)
  have le3 : w2.heap.size ≤ w3.heap.size := by simpa using s3
  clear s3
  have Ow_3 := Lib.hid ow
  clear b3 ow
  go_wp2_with fail
  refine (to_dats _ _ _ ps _ ((HP.out.below B3.out (Nat.le_refl _)).more B3.out.size) HM.out r4).mono ?_
  rintro e w4 ⟨A5, c5, rfl, o5, b4⟩
  have O3_4 := Lib.hid (O3_3.out.below b4 (Nat.le_refl _))
  have Ow_4 := Lib.hid (Ow_3.out.below b4 (Nat.le_refl _))
  have s4 := b4.size
  have B4 := Lib.hid (bstep B3.out b4 B3.out.size)
  have le4 : w3.heap.size ≤ w4.heap.size := by simpa using s4
  clear s4
  have O5_4 := Lib.hid o5
  clear b4 o5
  go_wp2_with fail
  refine (iasm_run _ _ _ _ ps HL.out _ O5_4.out.sl HM.out r4 HT.out).mono ?_
  rintro e w5 ⟨Ag, ng, cg, rfl, hlg, og, b5⟩
  obtain rfl : n = ng := by rw [← hlg, HN.out]
  clear hlg
  have O3_5 := Lib.hid (O3_4.out.below b5 (Nat.le_refl _))
  have Ow_5 := Lib.hid (Ow_4.out.below b5 (Nat.le_refl _))
  have O5_5 := Lib.hid (O5_4.out.below b5 (Nat.le_refl _))
  have s5 := b5.size
  have B5 := Lib.hid (bstep B4.out b5 B4.out.size)
  have le5 : w4.heap.size ≤ w5.heap.size := by simpa using s5
  clear s5
  have Og_5 := Lib.hid og
  clear b5 og
  go_wp2_with fail
  refine (eq_msgs _ _ _ _ _ l _ Og_5.out.sl Ow_5.out.sl HN.out (by omega)).mono ?_
  rintro e w6 ⟨rfl, b6⟩
  have O3_6 := Lib.hid (O3_5.out.below b6 (Nat.le_refl _))
  have Ow_6 := Lib.hid (Ow_5.out.below b6 (Nat.le_refl _))
  have O5_6 := Lib.hid (O5_5.out.below b6 (Nat.le_refl _))
  have Og_6 := Lib.hid (Og_5.out.below b6 (Nat.le_refl _))
  have s6 := b6.size
  have B6 := Lib.hid (bstep B5.out b6 B5.out.size)
  have le6 : w5.heap.size ≤ w6.heap.size := by simpa using s6
  clear s6
  clear b6
  go_wp2_with fail
  refine (to_dats _ _ _ ps _ ((HP.out.below B6.out (Nat.le_refl _)).more B6.out.size) HM.out r4).mono ?_
  rintro e w7 ⟨A7, c7, rfl, o7, b7⟩
  have O3_7 := Lib.hid (O3_6.out.below b7 (Nat.le_refl _))
  have Ow_7 := Lib.hid (Ow_6.out.below b7 (Nat.le_refl _))
  have O5_7 := Lib.hid (O5_6.out.below b7 (Nat.le_refl _))
  have Og_7 := Lib.hid (Og_6.out.below b7 (Nat.le_refl _))
  have s7 := b7.size
  have B7 := Lib.hid (bstep B6.out b7 B6.out.size)
  have le7 : w6.heap.size ≤ w7.heap.size := by simpa using s7
  clear s7
  have O7_7 := Lib.hid o7
  clear b7 o7
  go_wp2_with fail
  refine (eq_dats _ _ _ _ _ ps _ O5_7.out.sl O7_7.out.sl HM.out hm2).mono ?_
  rintro e w8 ⟨rfl, b8⟩
  have O3_8 := Lib.hid (O3_7.out.below b8 (Nat.le_refl _))
  have Ow_8 := Lib.hid (Ow_7.out.below b8 (Nat.le_refl _))
  have O5_8 := Lib.hid (O5_7.out.below b8 (Nat.le_refl _))
  have Og_8 := Lib.hid (Og_7.out.below b8 (Nat.le_refl _))
  have O7_8 := Lib.hid (O7_7.out.below b8 (Nat.le_refl _))
  have s8 := b8.size
  have B8 := Lib.hid (bstep B7.out b8 B7.out.size)
  have le8 : w7.heap.size ≤ w8.heap.size := by simpa using s8
  clear s8
  clear b8
  go_wp2_with fail
  refine (mark_dats _ _ _ 1 _ ps _ O5_8.out (by omega) r4).mono ?_
  rintro e w9 ⟨rfl, o9, row9, g9, r9⟩
  have O3_9 := Lib.hid (own_marked O3_8.out O5_8.out g9 r9 (fun a b ha hb => by
    have p1 := O5_4.out.blk a ha
    have p2 := O3_2.out.blk b hb
    try simp only [World.size_alloc, World.size_drew] at p1 p2
    omega))
  have Ow_9 := Lib.hid (own_marked Ow_8.out O5_8.out g9 r9 (fun a b ha hb => by
    have p1 := O5_4.out.blk a ha
    have p2 := Ow_3.out.blk b hb
    try simp only [World.size_alloc, World.size_drew] at p1 p2
    omega))
  have O5_9 := Lib.hid o9
  have Og_9 := Lib.hid (own_marked Og_8.out O5_8.out g9 r9 (fun a b ha hb => by
    have p1 := O5_4.out.blk a ha
    have p2 := Og_5.out.blk b hb
    try simp only [World.size_alloc, World.size_drew] at p1 p2
    omega))
  have O7_9 := Lib.hid (own_marked O7_8.out O5_8.out g9 r9 (fun a b ha hb => by
    have p1 := O5_4.out.blk a ha
    have p2 := O7_7.out.blk b hb
    try simp only [World.size_alloc, World.size_drew] at p1 p2
    omega))
  have le9 : w8.heap.size ≤ w9.heap.size := g9.size
  have B9 := Lib.hid (below_marked B8.out O5_8.out (by (try simp only [World.size_alloc, World.size_drew]); omega) g9 r9)
  clear o9 g9 r9
  have hk0 : ¬ (((1 + 7 * m : Nat) : Int)) < 0 := by omega
  go_wp2_with fail
  refine (eq_msgs _ _ _ _ _ l _ Og_9.out.sl Ow_9.out.sl HN.out (by omega)).mono ?_
  rintro e w10 ⟨rfl, b10⟩
  have O3_10 := Lib.hid (O3_9.out.below b10 (Nat.le_refl _))
  have Ow_10 := Lib.hid (Ow_9.out.below b10 (Nat.le_refl _))
  have O5_10 := Lib.hid (O5_9.out.below b10 (Nat.le_refl _))
  have Og_10 := Lib.hid (Og_9.out.below b10 (Nat.le_refl _))
  have O7_10 := Lib.hid (O7_9.out.below b10 (Nat.le_refl _))
  have s10 := b10.size
  have B10 := Lib.hid (bstep B9.out b10 B9.out.size)
  have le10 : w9.heap.size ≤ w10.heap.size := by simpa using s10
  clear s10
  clear b10
  go_wp2_with fail
  refine (mark_msgs _ _ _ 1 _ l _ Og_10.out (by omega) (by omega)).mono ?_
  rintro e w11 ⟨rfl, o11, row11, g11, r11⟩
  have O3_11 := Lib.hid (own_marked O3_10.out Og_10.out g11 r11 (fun a b ha hb => by
    have p1 := Og_5.out.blk a ha
    have p2 := O3_2.out.blk b hb
    try simp only [World.size_alloc, World.size_drew] at p1 p2
    omega))
  have Ow_11 := Lib.hid (own_marked Ow_10.out Og_10.out g11 r11 (fun a b ha hb => by
    have p1 := Og_5.out.blk a ha
    have p2 := Ow_3.out.blk b hb
    try simp only [World.size_alloc, World.size_drew] at p1 p2
    omega))
  have O5_11 := Lib.hid (own_marked O5_10.out Og_10.out g11 r11 (fun a b ha hb => by
    have p1 := Og_5.out.blk a ha
    have p2 := O5_4.out.blk b hb
    try simp only [World.size_alloc, World.size_drew] at p1 p2
    omega))
  have Og_11 := Lib.hid o11
  have O7_11 := Lib.hid (own_marked O7_10.out Og_10.out g11 r11 (fun a b ha hb => by
    have p1 := Og_5.out.blk a ha
    have p2 := O7_7.out.blk b hb
    try simp only [World.size_alloc, World.size_drew] at p1 p2
    omega))
  have le11 : w10.heap.size ≤ w11.heap.size := g11.size
  have B11 := Lib.hid (below_marked B10.out Og_10.out (by (try simp only [World.size_alloc, World.size_drew]); omega) g11 r11)
  clear o11 g11 r11
  have hk1 : ¬ (((1 + 4 * n : Nat) : Int)) < 0 := by omega
  go_wp2_with fail
  refine (held_msgs _ _ _ 1 _ Og_11.out.sl (by omega) (by omega)).mono ?_
  rintro e w12 ⟨rfl, b12⟩
  have O3_12 := Lib.hid (O3_11.out.below b12 (Nat.le_refl _))
  have Ow_12 := Lib.hid (Ow_11.out.below b12 (Nat.le_refl _))
  have O5_12 := Lib.hid (O5_11.out.below b12 (Nat.le_refl _))
  have Og_12 := Lib.hid (Og_11.out.below b12 (Nat.le_refl _))
  have O7_12 := Lib.hid (O7_11.out.below b12 (Nat.le_refl _))
  have s12 := b12.size
  have B12 := Lib.hid (bstep B11.out b12 B11.out.size)
  have le12 : w11.heap.size ≤ w12.heap.size := by simpa using s12
  clear s12
  clear b12
  go_wp2_with fail
  refine (to_dats _ _ _ ps _ ((HP.out.below B12.out (Nat.le_refl _)).more B12.out.size) HM.out r4).mono ?_
  rintro e w13 ⟨A6, c6, rfl, o6, b13⟩
  have O3_13 := Lib.hid (O3_12.out.below b13 (Nat.le_refl _))
  have Ow_13 := Lib.hid (Ow_12.out.below b13 (Nat.le_refl _))
  have O5_13 := Lib.hid (O5_12.out.below b13 (Nat.le_refl _))
  have Og_13 := Lib.hid (Og_12.out.below b13 (Nat.le_refl _))
  have O7_13 := Lib.hid (O7_12.out.below b13 (Nat.le_refl _))
  have s13 := b13.size
  have B13 := Lib.hid (bstep B12.out b13 B12.out.size)
  have le13 : w12.heap.size ≤ w13.heap.size := by simpa using s13
  clear s13
  have O6_13 := Lib.hid o6
  clear b13 o6
  go_wp2_with fail
  refine (iasm_run _ _ _ _ ps HL.out _ O6_13.out.sl HM.out r4 HT.out).mono ?_
  rintro e w14 ⟨Ah, nh, ch, rfl, hlh, oh, b14⟩
  obtain rfl : n = nh := by rw [← hlh, HN.out]
  clear hlh
  have O3_14 := Lib.hid (O3_13.out.below b14 (Nat.le_refl _))
  have Ow_14 := Lib.hid (Ow_13.out.below b14 (Nat.le_refl _))
  have O5_14 := Lib.hid (O5_13.out.below b14 (Nat.le_refl _))
  have Og_14 := Lib.hid (Og_13.out.below b14 (Nat.le_refl _))
  have O7_14 := Lib.hid (O7_13.out.below b14 (Nat.le_refl _))
  have O6_14 := Lib.hid (O6_13.out.below b14 (Nat.le_refl _))
  have s14 := b14.size
  have B14 := Lib.hid (bstep B13.out b14 B13.out.size)
  have le14 : w13.heap.size ≤ w14.heap.size := by simpa using s14
  clear s14
  have Oh_14 := Lib.hid oh
  clear b14 oh
  go_wp2_with fail
  refine (eq_msgs _ _ _ _ _ l _ Oh_14.out.sl Ow_14.out.sl HN.out (by omega)).mono ?_
  rintro e w15 ⟨rfl, b15⟩
  have O3_15 := Lib.hid (O3_14.out.below b15 (Nat.le_refl _))
  have Ow_15 := Lib.hid (Ow_14.out.below b15 (Nat.le_refl _))
  have O5_15 := Lib.hid (O5_14.out.below b15 (Nat.le_refl _))
  have Og_15 := Lib.hid (Og_14.out.below b15 (Nat.le_refl _))
  have O7_15 := Lib.hid (O7_14.out.below b15 (Nat.le_refl _))
  have O6_15 := Lib.hid (O6_14.out.below b15 (Nat.le_refl _))
  have Oh_15 := Lib.hid (Oh_14.out.below b15 (Nat.le_refl _))
  have s15 := b15.size
  have B15 := Lib.hid (bstep B14.out b15 B14.out.size)
  have le15 : w14.heap.size ≤ w15.heap.size := by simpa using s15
  clear s15
  clear b15
  go_wp2_with fail
  refine (held_msgs _ _ _ 1 _ Og_15.out.sl (by omega) (by omega)).mono ?_
  rintro e w16 ⟨rfl, b16⟩
  have O3_16 := Lib.hid (O3_15.out.below b16 (Nat.le_refl _))
  have Ow_16 := Lib.hid (Ow_15.out.below b16 (Nat.le_refl _))
  have O5_16 := Lib.hid (O5_15.out.below b16 (Nat.le_refl _))
  have Og_16 := Lib.hid (Og_15.out.below b16 (Nat.le_refl _))
  have O7_16 := Lib.hid (O7_15.out.below b16 (Nat.le_refl _))
  have O6_16 := Lib.hid (O6_15.out.below b16 (Nat.le_refl _))
  have Oh_16 := Lib.hid (Oh_15.out.below b16 (Nat.le_refl _))
  have s16 := b16.size
  have B16 := Lib.hid (bstep B15.out b16 B15.out.size)
  have le16 : w15.heap.size ≤ w16.heap.size := by simpa using s16
  clear s16
  clear b16
  go_wp2
  go_ret
  exact ⟨rfl, B16.out⟩
end Go.Proofs.Ytkhaodbcnnlhaaa
