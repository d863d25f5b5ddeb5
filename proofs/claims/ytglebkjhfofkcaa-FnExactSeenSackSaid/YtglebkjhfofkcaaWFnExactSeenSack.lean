/-
  The walk of 'FnExactSeenSack'. Condition: the list can be read.
-/
import Derived.Test.YtglebkjhfofkcaaSackE
import Derived.Test.YtglebkjhfofkcaaFrame
import Derived.Deep.RegionHeld3
namespace Go.Proofs.Ytglebkjhfofkcaa
open Go.ChangeShapes Go.WideShapes Go.ChangeAt Go.RowKit
set_option linter.unusedVariables false
set_option linter.unusedSimpArgs false
set_option maxHeartbeats 1600000 in
set_option maxRecDepth 100000 in
theorem walkFnExactSeenSack (cum : Int) (A : Option Addr) (n c : Nat) (zs : List Int) (w : World) (hcum : -9223372036854775808 ≤ cum ∧ cum ≤ 9223372036854775807) (hs : Sl w w.heap.size A (ints zs)) (hn : zs.length = n) (hc : n ≤ c) (hm : c ≤ maxLen)
    (hz : ∀ z ∈ zs, -9223372036854775808 ≤ z ∧ z ≤ 9223372036854775807) :
    Calls Try.prog 9 #[.agg #[.int .i64 cum, .slice A n c]] w fun e w' => e = .returned (.bool true) ∧ Below w.heap.size w w' := by
  have HS := Lib.hid hs; have HN := Lib.hid hn; clear hs hn hz
  have hm2 : n ≤ 9223372036854775807 := by unfold maxLen at hm; omega
  by_cases hbig : 1048576 < n
  · go_enter Try.func9, Try.ntmps9
    go_wp2_with fail
    refine (sz_seen_big _ _ _ _ _ hm2 hbig).mono ?_
    rintro e w1 ⟨rfl, b1'⟩
    obtain ⟨q1_0, z1, b1⟩ := boxed b1'
    have s1 := b1.size
    have B1 := Lib.hid b1
    have hz1 : w.heap.size ≤ w1.heap.size := by simpa using s1
    clear s1
    have Qa_1 := Lib.hid q1_0
    clear b1 b1' q1_0
    go_wp2
    go_ret
    exact ⟨rfl, B1.out⟩
  · obtain ⟨C, hC⟩ : ∃ C, C = skCum cum zs := ⟨_, rfl⟩
    obtain ⟨E, hE⟩ : ∃ E, E = skGaps cum zs := ⟨_, rfl⟩
    obtain ⟨K, hK⟩ : ∃ K, K = seenOk cum zs := ⟨_, rfl⟩
    have ISK := Lib.hid (fun (A : Option Addr) (n c : Nat) (w : World) hs hn hm => iseen_sack cum A n c zs w hs hn hm)
    have SSK := Lib.hid (fun (A : Option Addr) (n c : Nat) (w : World) hs hn hm => sseen_sack cum A n c zs w hs hn hm)
    unfold SeenSackP at ISK SSK
    rw [← hC, ← hE, ← hK] at ISK SSK
    have hEL : E.length ≤ n := by
      rw [hE, ← HN.out]
      unfold skGaps
      split
      · exact gapsOf_len zs
      · simp
    have HEL := Lib.hid (Nat.le_trans hEL hm2)
    have HEM := Lib.hid (Nat.le_trans hEL (show n ≤ 1048576 by omega))
    clear hC hE hK hEL
    have hge : ¬ ((1048576 : Int) - n < 0) := by omega
    go_enter Try.func9, Try.ntmps9
    go_wp2_with fail
    refine (sz_seen_ok _ _ _ _ _ hm2 (by omega)).mono ?_
    rintro e w1 ⟨rfl, b1'⟩
    obtain ⟨q1_0, z1, b1⟩ := boxed b1'
    have s1 := b1.size
    have B1 := Lib.hid b1
    have hz1 : w.heap.size ≤ w1.heap.size := by simpa using s1
    clear s1
    have Qa_1 := Lib.hid q1_0
    clear b1 b1' q1_0
    have la : w.heap.size < w1.heap.size := Qa_1.out.lt
    have ca0 : w1.cell? ⟨w.heap.size, 0, none⟩ = some (.int .i64 cum) := Qa_1.out.get 0 rfl
    have ca1 : w1.cell? ⟨w.heap.size, 1, none⟩ = some (.slice A n c) := Qa_1.out.get 1 rfl
    go_wp2_with fail
    refine (to_seen _ _ _ _ zs _ ((HS.out.below B1.out (Nat.le_refl _)).more B1.out.size) HN.out (by omega)).mono ?_
    rintro e w2 ⟨A2, c2, rfl, o2, b2⟩
    clear la ca0 ca1
    have Qa_2 := Lib.hid (Qa_1.out.below b2 Qa_1.out.lt)
    have s2 := b2.size
    have B2 := Lib.hid (bstep B1.out b2 B1.out.size)
    have hz2 : w1.heap.size ≤ w2.heap.size := by simpa using s2
    clear s2
    have Ot_2 := Lib.hid o2
    clear b2 o2
    go_wp2_with fail
    refine (SSK.out _ _ _ _ Ot_2.out.sl HN.out hm2).mono ?_
    rintro e w3 ⟨A3, c3, rfl, o3, b3⟩
    have Qa_3 := Lib.hid (Qa_2.out.below b3 Qa_2.out.lt)
    have Ot_3 := Lib.hid (Ot_2.out.below b3 (Nat.le_refl _))
    have s3 := b3.size
    have B3 := Lib.hid (bstep B2.out b3 B2.out.size)
    have hz3 : w2.heap.size ≤ w3.heap.size := by simpa using s3
    clear s3
    have Ow_3 := Lib.hid o3
    clear b3 o3
    have la : w.heap.size < w3.heap.size := Qa_3.out.lt
    have ca0 : w3.cell? ⟨w.heap.size, 0, none⟩ = some (.int .i64 cum) := Qa_3.out.get 0 rfl
    have ca1 : w3.cell? ⟨w.heap.size, 1, none⟩ = some (.slice A n c) := Qa_3.out.get 1 rfl
    go_wp2_with fail
    refine (to_seen _ _ _ _ zs _ ((((HS.out.below B3.out (Nat.le_refl _)).more B3.out.size).alloc (Nat.le_refl _) _).more (by simp)) HN.out (by omega)).mono ?_
    rintro e w4 ⟨A4, c4, rfl, o4, b4'⟩
    obtain ⟨q4_0, z4, b4⟩ := boxed b4'
    clear la ca0 ca1
    have Qa_4 := Lib.hid (Qa_3.out.below b4 Qa_3.out.lt)
    have Ot_4 := Lib.hid (Ot_3.out.below b4 (Nat.le_refl _))
    have Ow_4 := Lib.hid (Ow_3.out.below b4 (Nat.le_refl _))
    have s4 := b4.size
    have B4 := Lib.hid (bstep B3.out b4 B3.out.size)
    have hz4 : w3.heap.size ≤ w4.heap.size := by simpa using s4
    clear s4
    have Qwant_4 := Lib.hid q4_0
    have Ox_4 := Lib.hid o4
    clear b4 b4' q4_0 o4
    go_wp2_with fail
    refine (ISK.out _ _ _ _ ((Ox_4.out.sl.alloc (Nat.le_refl _) _).more (by simp)) HN.out hm2).mono ?_
    rintro e w5 ⟨A5, c5, rfl, o5, b5'⟩
    obtain ⟨q5_0, z5, b5⟩ := boxed b5'
    have Qa_5 := Lib.hid (Qa_4.out.below b5 Qa_4.out.lt)
    have Ot_5 := Lib.hid (Ot_4.out.below b5 (Nat.le_refl _))
    have Ow_5 := Lib.hid (Ow_4.out.below b5 (Nat.le_refl _))
    have Qwant_5 := Lib.hid (Qwant_4.out.below b5 Qwant_4.out.lt)
    have Ox_5 := Lib.hid (Ox_4.out.below b5 (Nat.le_refl _))
    have s5 := b5.size
    have B5 := Lib.hid (bstep B4.out b5 B4.out.size)
    have hz5 : w4.heap.size ≤ w5.heap.size := by simpa using s5
    clear s5
    have Qx0_5 := Lib.hid q5_0
    have Og_5 := Lib.hid o5
    clear b5 b5' q5_0 o5
    have lwant : w3.heap.size < w5.heap.size := Qwant_5.out.lt
    have cwant0 : w5.cell? ⟨w3.heap.size, 0, none⟩ = some (.int .i64 C) := Qwant_5.out.get 0 rfl
    have cwant1 : w5.cell? ⟨w3.heap.size, 1, none⟩ = some (.slice A3 E.length c3) := Qwant_5.out.get 1 rfl
    go_wp2_with fail
    refine (eq_sack _ _ _ _ _ _ E _ ((Og_5.out.sl.alloc (Nat.le_refl _) _).more (by simp)) ((Ow_5.out.sl.alloc (Nat.le_refl _) _).more (by simp)) rfl HEL.out).mono ?_
    rintro e w6 ⟨rfl, b6'⟩
    obtain ⟨q6_0, z6, b6⟩ := boxed b6'
    clear lwant cwant0 cwant1
    have Qa_6 := Lib.hid (Qa_5.out.below b6 Qa_5.out.lt)
    have Ot_6 := Lib.hid (Ot_5.out.below b6 (Nat.le_refl _))
    have Ow_6 := Lib.hid (Ow_5.out.below b6 (Nat.le_refl _))
    have Qwant_6 := Lib.hid (Qwant_5.out.below b6 Qwant_5.out.lt)
    have Ox_6 := Lib.hid (Ox_5.out.below b6 (Nat.le_refl _))
    have Qx0_6 := Lib.hid (Qx0_5.out.below b6 Qx0_5.out.lt)
    have Og_6 := Lib.hid (Og_5.out.below b6 (Nat.le_refl _))
    have s6 := b6.size
    have B6 := Lib.hid (bstep B5.out b6 B5.out.size)
    have hz6 : w5.heap.size ≤ w6.heap.size := by simpa using s6
    clear s6
    have Qg0_6 := Lib.hid q6_0
    clear b6 b6' q6_0
    have la : w.heap.size < w6.heap.size := Qa_6.out.lt
    have ca0 : w6.cell? ⟨w.heap.size, 0, none⟩ = some (.int .i64 cum) := Qa_6.out.get 0 rfl
    have ca1 : w6.cell? ⟨w.heap.size, 1, none⟩ = some (.slice A n c) := Qa_6.out.get 1 rfl
    have lx0 : w4.heap.size < w6.heap.size := Qx0_6.out.lt
    have cx00 : w6.cell? ⟨w4.heap.size, 0, none⟩ = some (.int .i64 cum) := Qx0_6.out.get 0 rfl
    have cx01 : w6.cell? ⟨w4.heap.size, 1, none⟩ = some (.slice A4 n c4) := Qx0_6.out.get 1 rfl
    go_wp2_with fail
    go_region_held3 (fun w' => w'.cell? ⟨w.heap.size, 0, none⟩ = some (.int .i64 cum) ∧ w'.cell? ⟨w.heap.size, 1, none⟩ = some (.slice A n c) ∧ w'.cell? ⟨w4.heap.size, 0, none⟩ = some (.int .i64 cum) ∧ w'.cell? ⟨w4.heap.size, 1, none⟩ = some (.slice A4 n c4)) (first | exact ⟨ca0, ca1, cx00, cx01⟩ | exact ⟨da0, da1, dx00, dx01⟩ | exact ⟨ea0, ea1, ex00, ex01⟩ | go_keep)
      (first
        | (go_at_call 29; refine (to_seen _ _ _ _ zs _ ((HS.out.below B6.out.drew (Nat.le_refl _)).more B6.out.size) HN.out (by omega)).mono ?_; rintro e w7 ⟨A7, c7, rfl, o7, b7⟩; have Qa_7 := Lib.hid (Qa_6.out.drew.below b7 Qa_6.out.lt); have Ot_7 := Lib.hid (Ot_6.out.drew.below b7 (Nat.le_refl _)); have Ow_7 := Lib.hid (Ow_6.out.drew.below b7 (Nat.le_refl _)); have Qwant_7 := Lib.hid (Qwant_6.out.drew.below b7 Qwant_6.out.lt); have Ox_7 := Lib.hid (Ox_6.out.drew.below b7 (Nat.le_refl _)); have Qx0_7 := Lib.hid (Qx0_6.out.drew.below b7 Qx0_6.out.lt); have Og_7 := Lib.hid (Og_6.out.drew.below b7 (Nat.le_refl _)); have Qg0_7 := Lib.hid (Qg0_6.out.drew.below b7 Qg0_6.out.lt); have Ot7_7 := Lib.hid o7; have B7 := Lib.hid (bstep B6.out.drew b7 B6.out.size); have hz7 : w6.heap.size ≤ w7.heap.size := b7.size; have da0 : w7.cell? ⟨w.heap.size, 0, none⟩ = some (.int .i64 cum) := Qa_7.out.get 0 rfl; have da1 : w7.cell? ⟨w.heap.size, 1, none⟩ = some (.slice A n c) := Qa_7.out.get 1 rfl; have dx00 : w7.cell? ⟨w4.heap.size, 0, none⟩ = some (.int .i64 cum) := Qx0_7.out.get 0 rfl; have dx01 : w7.cell? ⟨w4.heap.size, 1, none⟩ = some (.slice A4 n c4) := Qx0_7.out.get 1 rfl; clear b7 o7)
        | (go_at_call 30; refine (eq_seen _ _ _ _ _ _ zs _ Ox_7.out.sl Ot7_7.out.sl HN.out hm2).mono ?_; rintro e w8 ⟨rfl, b8⟩; have ea0 : w8.cell? ⟨w.heap.size, 0, none⟩ = some (.int .i64 cum) := (Qa_7.out.below b8 Qa_7.out.lt).get 0 rfl; have ea1 : w8.cell? ⟨w.heap.size, 1, none⟩ = some (.slice A n c) := (Qa_7.out.below b8 Qa_7.out.lt).get 1 rfl; have ex00 : w8.cell? ⟨w4.heap.size, 0, none⟩ = some (.int .i64 cum) := (Qx0_7.out.below b8 Qx0_7.out.lt).get 0 rfl; have ex01 : w8.cell? ⟨w4.heap.size, 1, none⟩ = some (.slice A4 n c4) := (Qx0_7.out.below b8 Qx0_7.out.lt).get 1 rfl; have BB8 := Lib.hid b8; clear b8))
    have b8 := BB8.out
    clear ca0 ca1 cx00 cx01 da0 da1 dx00 dx01 ea0 ea1 ex00 ex01
    clear la lx0
    have Qa_8 := Lib.hid (Qa_7.out.below b8 Qa_7.out.lt)
    have Ot_8 := Lib.hid (Ot_7.out.below b8 (Nat.le_refl _))
    have Ow_8 := Lib.hid (Ow_7.out.below b8 (Nat.le_refl _))
    have Qwant_8 := Lib.hid (Qwant_7.out.below b8 Qwant_7.out.lt)
    have Ox_8 := Lib.hid (Ox_7.out.below b8 (Nat.le_refl _))
    have Qx0_8 := Lib.hid (Qx0_7.out.below b8 Qx0_7.out.lt)
    have Og_8 := Lib.hid (Og_7.out.below b8 (Nat.le_refl _))
    have Qg0_8 := Lib.hid (Qg0_7.out.below b8 Qg0_7.out.lt)
    have Ot7_8 := Lib.hid (Ot7_7.out.below b8 (Nat.le_refl _))
    have s8 := b8.size
    have B8 := Lib.hid (bstep B7.out b8 B7.out.size)
    have hz8 : w7.heap.size ≤ w8.heap.size := by simpa using s8
    clear s8
    clear b8
    have lx0 : w4.heap.size < w8.heap.size := Qx0_8.out.lt
    have cx00 : w8.cell? ⟨w4.heap.size, 0, none⟩ = some (.int .i64 cum) := Qx0_8.out.get 0 rfl
    have cx01 : w8.cell? ⟨w4.heap.size, 1, none⟩ = some (.slice A4 n c4) := Qx0_8.out.get 1 rfl
    go_wp2_with fail
    refine (mark_seen _ _ _ _ 1 _ zs _ Ox_8.out (by omega) (by omega)).mono ?_
    rintro e w9 ⟨rfl, o9, row9, g9, r9⟩
    clear lx0 cx00 cx01
    have Qa_9 := Lib.hid (blk_marked Qa_8.out Ox_8.out (by decide) g9 r9)
    have Ot_9 := Lib.hid (own_marked Ot_8.out Ox_8.out g9 r9 (fun a b ha hb => by
      have p1 := Ox_4.out.blk a ha
      have p2 := Ot_2.out.blk b hb
      try simp only [World.size_alloc, World.size_drew] at p1 p2
      omega))
    have Ow_9 := Lib.hid (own_marked Ow_8.out Ox_8.out g9 r9 (fun a b ha hb => by
      have p1 := Ox_4.out.blk a ha
      have p2 := Ow_3.out.blk b hb
      try simp only [World.size_alloc, World.size_drew] at p1 p2
      omega))
    have Qwant_9 := Lib.hid (blk_marked Qwant_8.out Ox_8.out (by decide) g9 r9)
    have Ox_9 := Lib.hid o9
    have Qx0_9 := Lib.hid (blk_marked Qx0_8.out Ox_8.out (by decide) g9 r9)
    have Og_9 := Lib.hid (own_marked Og_8.out Ox_8.out g9 r9 (fun a b ha hb => by
      have p1 := Ox_4.out.blk a ha
      have p2 := Og_5.out.blk b hb
      try simp only [World.size_alloc, World.size_drew] at p1 p2
      omega))
    have Qg0_9 := Lib.hid (blk_marked Qg0_8.out Ox_8.out (by decide) g9 r9)
    have Ot7_9 := Lib.hid (own_marked Ot7_8.out Ox_8.out g9 r9 (fun a b ha hb => by
      have p1 := Ox_4.out.blk a ha
      have p2 := Ot7_7.out.blk b hb
      try simp only [World.size_alloc, World.size_drew] at p1 p2
      omega))
    have hz9 : w8.heap.size ≤ w9.heap.size := g9.size
    have B9 := Lib.hid (below_marked B8.out Ox_8.out (by (try simp only [World.size_alloc, World.size_drew]); omega) g9 r9)
    clear o9 g9 r9
    have lg0 : w5.heap.size < w9.heap.size := Qg0_9.out.lt
    have cg00 : w9.cell? ⟨w5.heap.size, 0, none⟩ = some (.int .i64 C) := Qg0_9.out.get 0 rfl
    have cg01 : w9.cell? ⟨w5.heap.size, 1, none⟩ = some (.slice A5 E.length c5) := Qg0_9.out.get 1 rfl
    have lwant : w3.heap.size < w9.heap.size := Qwant_9.out.lt
    have cwant0 : w9.cell? ⟨w3.heap.size, 0, none⟩ = some (.int .i64 C) := Qwant_9.out.get 0 rfl
    have cwant1 : w9.cell? ⟨w3.heap.size, 1, none⟩ = some (.slice A3 E.length c3) := Qwant_9.out.get 1 rfl
    go_wp2_with fail
    refine (eq_sack _ _ _ _ _ _ E _ Og_9.out.sl Ow_9.out.sl rfl HEL.out).mono ?_
    rintro e w10 ⟨rfl, b10⟩
    clear lg0 cg00 cg01 lwant cwant0 cwant1
    have Qa_10 := Lib.hid (Qa_9.out.below b10 Qa_9.out.lt)
    have Ot_10 := Lib.hid (Ot_9.out.below b10 (Nat.le_refl _))
    have Ow_10 := Lib.hid (Ow_9.out.below b10 (Nat.le_refl _))
    have Qwant_10 := Lib.hid (Qwant_9.out.below b10 Qwant_9.out.lt)
    have Ox_10 := Lib.hid (Ox_9.out.below b10 (Nat.le_refl _))
    have Qx0_10 := Lib.hid (Qx0_9.out.below b10 Qx0_9.out.lt)
    have Og_10 := Lib.hid (Og_9.out.below b10 (Nat.le_refl _))
    have Qg0_10 := Lib.hid (Qg0_9.out.below b10 Qg0_9.out.lt)
    have Ot7_10 := Lib.hid (Ot7_9.out.below b10 (Nat.le_refl _))
    have s10 := b10.size
    have B10 := Lib.hid (bstep B9.out b10 B9.out.size)
    have hz10 : w9.heap.size ≤ w10.heap.size := by simpa using s10
    clear s10
    clear b10
    have lg0 : w5.heap.size < w10.heap.size := Qg0_10.out.lt
    have cg00 : w10.cell? ⟨w5.heap.size, 0, none⟩ = some (.int .i64 C) := Qg0_10.out.get 0 rfl
    have cg01 : w10.cell? ⟨w5.heap.size, 1, none⟩ = some (.slice A5 E.length c5) := Qg0_10.out.get 1 rfl
    go_wp2_with fail
    refine (mark_sack _ _ _ _ 1 _ E _ Og_10.out (by omega) HEM.out).mono ?_
    rintro e w11 ⟨rfl, o11, row11, g11, r11⟩
    clear lg0 cg00 cg01
    have Qa_11 := Lib.hid (blk_marked Qa_10.out Og_10.out (by decide) g11 r11)
    have Ot_11 := Lib.hid (own_marked Ot_10.out Og_10.out g11 r11 (fun a b ha hb => by
      have p1 := Og_5.out.blk a ha
      have p2 := Ot_2.out.blk b hb
      try simp only [World.size_alloc, World.size_drew] at p1 p2
      omega))
    have Ow_11 := Lib.hid (own_marked Ow_10.out Og_10.out g11 r11 (fun a b ha hb => by
      have p1 := Og_5.out.blk a ha
      have p2 := Ow_3.out.blk b hb
      try simp only [World.size_alloc, World.size_drew] at p1 p2
      omega))
    have Qwant_11 := Lib.hid (blk_marked Qwant_10.out Og_10.out (by decide) g11 r11)
    have Ox_11 := Lib.hid (own_marked Ox_10.out Og_10.out g11 r11 (fun a b ha hb => by
      have p1 := Og_5.out.blk a ha
      have p2 := Ox_4.out.blk b hb
      try simp only [World.size_alloc, World.size_drew] at p1 p2
      omega))
    have Qx0_11 := Lib.hid (blk_marked Qx0_10.out Og_10.out (by decide) g11 r11)
    have Og_11 := Lib.hid o11
    have Qg0_11 := Lib.hid (blk_marked Qg0_10.out Og_10.out (by decide) g11 r11)
    have Ot7_11 := Lib.hid (own_marked Ot7_10.out Og_10.out g11 r11 (fun a b ha hb => by
      have p1 := Og_5.out.blk a ha
      have p2 := Ot7_7.out.blk b hb
      try simp only [World.size_alloc, World.size_drew] at p1 p2
      omega))
    have hz11 : w10.heap.size ≤ w11.heap.size := g11.size
    have B11 := Lib.hid (below_marked B10.out Og_10.out (by (try simp only [World.size_alloc, World.size_drew]); omega) g11 r11)
    clear o11 g11 r11
    have lg0 : w5.heap.size < w11.heap.size := Qg0_11.out.lt
    have cg00 : w11.cell? ⟨w5.heap.size, 0, none⟩ = some (.int .i64 C) := Qg0_11.out.get 0 rfl
    have cg01 : w11.cell? ⟨w5.heap.size, 1, none⟩ = some (.slice A5 E.length c5) := Qg0_11.out.get 1 rfl
    go_wp2_with fail
    refine (held_sack _ _ _ _ 1 _ Og_11.out.sl (by omega) HEM.out).mono ?_
    rintro e w12 ⟨rfl, b12⟩
    clear lg0 cg00 cg01
    have Qa_12 := Lib.hid (Qa_11.out.below b12 Qa_11.out.lt)
    have Ot_12 := Lib.hid (Ot_11.out.below b12 (Nat.le_refl _))
    have Ow_12 := Lib.hid (Ow_11.out.below b12 (Nat.le_refl _))
    have Qwant_12 := Lib.hid (Qwant_11.out.below b12 Qwant_11.out.lt)
    have Ox_12 := Lib.hid (Ox_11.out.below b12 (Nat.le_refl _))
    have Qx0_12 := Lib.hid (Qx0_11.out.below b12 Qx0_11.out.lt)
    have Og_12 := Lib.hid (Og_11.out.below b12 (Nat.le_refl _))
    have Qg0_12 := Lib.hid (Qg0_11.out.below b12 Qg0_11.out.lt)
    have Ot7_12 := Lib.hid (Ot7_11.out.below b12 (Nat.le_refl _))
    have s12 := b12.size
    have B12 := Lib.hid (bstep B11.out b12 B11.out.size)
    have hz12 : w11.heap.size ≤ w12.heap.size := by simpa using s12
    clear s12
    clear b12
    have la : w.heap.size < w12.heap.size := Qa_12.out.lt
    have ca0 : w12.cell? ⟨w.heap.size, 0, none⟩ = some (.int .i64 cum) := Qa_12.out.get 0 rfl
    have ca1 : w12.cell? ⟨w.heap.size, 1, none⟩ = some (.slice A n c) := Qa_12.out.get 1 rfl
    go_wp2_with fail
    refine (to_seen _ _ _ _ zs _ ((HS.out.below B12.out (Nat.le_refl _)).more B12.out.size) HN.out (by omega)).mono ?_
    rintro e w13 ⟨A13, c13, rfl, o13, b13⟩
    clear la ca0 ca1
    have Qa_13 := Lib.hid (Qa_12.out.below b13 Qa_12.out.lt)
    have Ot_13 := Lib.hid (Ot_12.out.below b13 (Nat.le_refl _))
    have Ow_13 := Lib.hid (Ow_12.out.below b13 (Nat.le_refl _))
    have Qwant_13 := Lib.hid (Qwant_12.out.below b13 Qwant_12.out.lt)
    have Ox_13 := Lib.hid (Ox_12.out.below b13 (Nat.le_refl _))
    have Qx0_13 := Lib.hid (Qx0_12.out.below b13 Qx0_12.out.lt)
    have Og_13 := Lib.hid (Og_12.out.below b13 (Nat.le_refl _))
    have Qg0_13 := Lib.hid (Qg0_12.out.below b13 Qg0_12.out.lt)
    have Ot7_13 := Lib.hid (Ot7_12.out.below b13 (Nat.le_refl _))
    have s13 := b13.size
    have B13 := Lib.hid (bstep B12.out b13 B12.out.size)
    have hz13 : w12.heap.size ≤ w13.heap.size := by simpa using s13
    clear s13
    have Ot13_13 := Lib.hid o13
    clear b13 o13
    go_wp2_with fail
    refine (ISK.out _ _ _ _ Ot13_13.out.sl HN.out hm2).mono ?_
    rintro e w14 ⟨A14, c14, rfl, o14, b14⟩
    have Qa_14 := Lib.hid (Qa_13.out.below b14 Qa_13.out.lt)
    have Ot_14 := Lib.hid (Ot_13.out.below b14 (Nat.le_refl _))
    have Ow_14 := Lib.hid (Ow_13.out.below b14 (Nat.le_refl _))
    have Qwant_14 := Lib.hid (Qwant_13.out.below b14 Qwant_13.out.lt)
    have Ox_14 := Lib.hid (Ox_13.out.below b14 (Nat.le_refl _))
    have Qx0_14 := Lib.hid (Qx0_13.out.below b14 Qx0_13.out.lt)
    have Og_14 := Lib.hid (Og_13.out.below b14 (Nat.le_refl _))
    have Qg0_14 := Lib.hid (Qg0_13.out.below b14 Qg0_13.out.lt)
    have Ot7_14 := Lib.hid (Ot7_13.out.below b14 (Nat.le_refl _))
    have Ot13_14 := Lib.hid (Ot13_13.out.below b14 (Nat.le_refl _))
    have s14 := b14.size
    have B14 := Lib.hid (bstep B13.out b14 B13.out.size)
    have hz14 : w13.heap.size ≤ w14.heap.size := by simpa using s14
    clear s14
    have Oh_14 := Lib.hid o14
    clear b14 o14
    have lwant : w3.heap.size < w14.heap.size := Qwant_14.out.lt
    have cwant0 : w14.cell? ⟨w3.heap.size, 0, none⟩ = some (.int .i64 C) := Qwant_14.out.get 0 rfl
    have cwant1 : w14.cell? ⟨w3.heap.size, 1, none⟩ = some (.slice A3 E.length c3) := Qwant_14.out.get 1 rfl
    go_wp2_with fail
    refine (eq_sack _ _ _ _ _ _ E _ ((Oh_14.out.sl.alloc (Nat.le_refl _) _).more (by simp)) ((Ow_14.out.sl.alloc (Nat.le_refl _) _).more (by simp)) rfl HEL.out).mono ?_
    rintro e w15 ⟨rfl, b15'⟩
    obtain ⟨q15_0, z15, b15⟩ := boxed b15'
    clear lwant cwant0 cwant1
    have Qa_15 := Lib.hid (Qa_14.out.below b15 Qa_14.out.lt)
    have Ot_15 := Lib.hid (Ot_14.out.below b15 (Nat.le_refl _))
    have Ow_15 := Lib.hid (Ow_14.out.below b15 (Nat.le_refl _))
    have Qwant_15 := Lib.hid (Qwant_14.out.below b15 Qwant_14.out.lt)
    have Ox_15 := Lib.hid (Ox_14.out.below b15 (Nat.le_refl _))
    have Qx0_15 := Lib.hid (Qx0_14.out.below b15 Qx0_14.out.lt)
    have Og_15 := Lib.hid (Og_14.out.below b15 (Nat.le_refl _))
    have Qg0_15 := Lib.hid (Qg0_14.out.below b15 Qg0_14.out.lt)
    have Ot7_15 := Lib.hid (Ot7_14.out.below b15 (Nat.le_refl _))
    have Ot13_15 := Lib.hid (Ot13_14.out.below b15 (Nat.le_refl _))
    have Oh_15 := Lib.hid (Oh_14.out.below b15 (Nat.le_refl _))
    have s15 := b15.size
    have B15 := Lib.hid (bstep B14.out b15 B14.out.size)
    have hz15 : w14.heap.size ≤ w15.heap.size := by simpa using s15
    clear s15
    have Qh0_15 := Lib.hid q15_0
    clear b15 b15' q15_0
    have lg0 : w5.heap.size < w15.heap.size := Qg0_15.out.lt
    have cg00 : w15.cell? ⟨w5.heap.size, 0, none⟩ = some (.int .i64 C) := Qg0_15.out.get 0 rfl
    have cg01 : w15.cell? ⟨w5.heap.size, 1, none⟩ = some (.slice A5 E.length c5) := Qg0_15.out.get 1 rfl
    go_wp2_with fail
    refine (held_sack _ _ _ _ 1 _ Og_15.out.sl (by omega) HEM.out).mono ?_
    rintro e w16 ⟨rfl, b16⟩
    clear lg0 cg00 cg01
    have Qa_16 := Lib.hid (Qa_15.out.below b16 Qa_15.out.lt)
    have Ot_16 := Lib.hid (Ot_15.out.below b16 (Nat.le_refl _))
    have Ow_16 := Lib.hid (Ow_15.out.below b16 (Nat.le_refl _))
    have Qwant_16 := Lib.hid (Qwant_15.out.below b16 Qwant_15.out.lt)
    have Ox_16 := Lib.hid (Ox_15.out.below b16 (Nat.le_refl _))
    have Qx0_16 := Lib.hid (Qx0_15.out.below b16 Qx0_15.out.lt)
    have Og_16 := Lib.hid (Og_15.out.below b16 (Nat.le_refl _))
    have Qg0_16 := Lib.hid (Qg0_15.out.below b16 Qg0_15.out.lt)
    have Ot7_16 := Lib.hid (Ot7_15.out.below b16 (Nat.le_refl _))
    have Ot13_16 := Lib.hid (Ot13_15.out.below b16 (Nat.le_refl _))
    have Oh_16 := Lib.hid (Oh_15.out.below b16 (Nat.le_refl _))
    have Qh0_16 := Lib.hid (Qh0_15.out.below b16 Qh0_15.out.lt)
    have s16 := b16.size
    have B16 := Lib.hid (bstep B15.out b16 B15.out.size)
    have hz16 : w15.heap.size ≤ w16.heap.size := by simpa using s16
    clear s16
    clear b16
    go_wp2
    go_ret
    exact ⟨rfl, B16.out⟩
end Go.Proofs.Ytglebkjhfofkcaa
