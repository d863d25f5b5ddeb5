/-
  The walk of 'FnExactSeenAdd'. Condition: the list can be read.
-/
import Derived.Test.YtglebkjhfofkcaaWFnSeenAddFar
import Derived.Test.YtglebkjhfofkcaaSeenN
import Derived.Deep.RegionWith
import Derived.Deep.RegionHeld3
namespace Go.Proofs.Ytglebkjhfofkcaa
open Go.ChangeShapes Go.WideShapes Go.ChangeAt Go.RowKit
set_option linter.unusedVariables false
theorem sa_len_any (cum : Int) (zs : List Int) (tsn : Int) (h : zs.length ≤ 9223372036854775807) : (saExtra cum zs tsn).length ≤ 9223372036854775807 := by
  unfold saExtra
  split
  · simp
  · split
    · exact Nat.le_trans (extraTo_len _ _ _) (by omega)
    · omega
theorem sa_len_meg (cum : Int) (zs : List Int) (tsn : Int) (h : zs.length ≤ 1048576) : (saExtra cum zs tsn).length ≤ 1048576 := by
  unfold saExtra
  split
  · simp
  · split
    · exact Nat.le_trans (extraTo_len _ _ _) (by omega)
    · omega
theorem walkFnExactSeenAdd (cum : Int) (A : Option Addr) (n c : Nat) (zs : List Int) (tsn : Int) (w : World) (hcum : -9223372036854775808 ≤ cum ∧ cum ≤ 9223372036854775807) (hs : Sl w w.heap.size A (ints zs)) (hn : zs.length = n) (hc : n ≤ c) (hm : c ≤ maxLen)
    (hz : ∀ z ∈ zs, -9223372036854775808 ≤ z ∧ z ≤ 9223372036854775807) (ht : -9223372036854775808 ≤ tsn ∧ tsn ≤ 9223372036854775807) :
    Calls Try.prog 10 #[.agg #[.int .i64 cum, .slice A n c], .int .i64 tsn] w fun e w' => e = .returned (.bool true) ∧ Below w.heap.size w w' := by
  have HS := Lib.hid hs; have HN := Lib.hid hn; clear hs hn hz
  have hm2 : n ≤ 9223372036854775807 := by unfold maxLen at hm; omega
  by_cases hbig : 1048576 < n
  · go_enter Try.func10, Try.ntmps10
    go_wp2_with fail
    refine (sz_seen_big _ _ _ _ _ hm2 hbig).mono ?_
    rintro e w1 ⟨rfl, b1⟩
    go_wp2
    go_ret
    exact ⟨rfl, bstep ((Below.refl _ w).alloc (Nat.le_refl _) _) b1 (by simp)⟩
  · obtain ⟨C, hC⟩ : ∃ C, C = saCum cum zs tsn := ⟨_, rfl⟩
    obtain ⟨E, hE⟩ : ∃ E, E = saExtra cum zs tsn := ⟨_, rfl⟩
    obtain ⟨K, hK⟩ : ∃ K, K = saCode cum zs tsn := ⟨_, rfl⟩
    have ISA := Lib.hid (fun (A : Option Addr) (n c : Nat) (w : World) hs hn hm => iseen_add cum A n c zs tsn w hs hn hm)
    have SSA := Lib.hid (fun (A : Option Addr) (n c : Nat) (w : World) hs hn hm => sseen_add cum A n c zs tsn w hs hn hm)
    unfold SeenAddP at ISA SSA
    rw [← hC, ← hE, ← hK] at ISA SSA
    have HEL := Lib.hid (sa_len_any cum zs tsn (by have := HN.out; omega))
    rw [← hE] at HEL
    have HEM := Lib.hid (sa_len_meg cum zs tsn (by have := HN.out; omega))
    rw [← hE] at HEM
    clear hC hE hK
    have hge : ¬ ((1048576 : Int) - n < 0) := by omega
    go_enter Try.func10, Try.ntmps10
    go_wp2_with fail
    refine (sz_seen_ok _ _ _ _ _ hm2 (by omega)).mono ?_
    rintro e w1 ⟨rfl, b1'⟩
    obtain ⟨q1, z1, b1⟩ := boxed b1'
    have x0 := q1.get 0 rfl
    have x1 := q1.get 1 rfl
    have Q1 := Lib.hid q1
    clear b1' q1
    go_wp2_with fail
    refine (to_seen _ _ _ _ zs _ ((HS.out.below b1 (Nat.le_refl _)).more b1.size) HN.out (by omega)).mono ?_
    rintro e w2 ⟨A2, c2, rfl, o2, b2⟩
    have O2 := Lib.hid o2; clear o2
    go_wp2_with fail
    refine (SSA.out _ _ _ _ O2.out.sl HN.out hm2).mono ?_
    rintro e w3 ⟨A3, c3, rfl, o3, b3⟩
    have O3 := Lib.hid o3
    have Q3 := (Q1.out.below b2 Q1.out.lt).below b3 (Nat.lt_of_lt_of_le Q1.out.lt b2.size)
    have y0 := Q3.get 0 rfl
    have y1 := Q3.get 1 rfl
    have B3 := Lib.hid (bstep b1 (bstep b2 b3 b2.size) b1.size)
    have QQ3 := Lib.hid Q3
    have hl3 := Q3.lt
    clear x0 x1 Q3 b1 b2 b3 o3
    go_wp2_with fail
    refine (to_seen _ _ _ _ zs _ (((HS.out.below B3.out (Nat.le_refl _)).more B3.out.size).alloc (Nat.le_refl _) _ |>.more (by simp)) HN.out (by omega)).mono ?_
    rintro e w4 ⟨A4, c4, rfl, o4, b4'⟩
    obtain ⟨q4, z4, b4⟩ := boxed b4'
    have O4 := Lib.hid o4
    have QW := Lib.hid q4
    have Q4 := QQ3.out.below b4 QQ3.out.lt
    have QQ4 := Lib.hid Q4
    have y0 := Q4.get 0 rfl
    have y1 := Q4.get 1 rfl
    have u0 := q4.get 0 rfl
    have u1 := q4.get 1 rfl
    have O34 := Lib.hid (O3.out.below b4 (Nat.le_refl _))
    have B4 := Lib.hid (bstep B3.out b4 B3.out.size)
    have hl4 := Q4.lt
    have hl4' := q4.lt
    clear b4 b4' q4 Q4 o4
    go_wp2_with fail
    refine (ISA.out _ _ _ _ ((O4.out.sl.alloc (Nat.le_refl _) _).more (by simp)) HN.out hm2).mono ?_
    rintro e w5 ⟨A5, c5, rfl, o5, b5'⟩
    obtain ⟨q5, z5, b5⟩ := boxed b5'
    have O5 := Lib.hid o5
    have QX5 := Lib.hid q5
    have Q5 := QQ4.out.below b5 QQ4.out.lt
    have QQ5 := Lib.hid Q5
    have qw5 := QW.out.below b5 QW.out.lt
    have QW5 := Lib.hid qw5
    have y0 := Q5.get 0 rfl
    have y1 := Q5.get 1 rfl
    have u0 := qw5.get 0 rfl
    have u1 := qw5.get 1 rfl
    have v0 := q5.get 0 rfl
    have v1 := q5.get 1 rfl
    have O35 := Lib.hid (O34.out.below b5 (Nat.le_refl _))
    have O45 := Lib.hid (O4.out.below b5 (Nat.le_refl _))
    have B5 := Lib.hid (bstep B4.out b5 B4.out.size)
    have hl5 := Q5.lt
    have hl5' := qw5.lt
    have hl5x := q5.lt
    clear b5 b5' q5 Q5 qw5 o5
    go_wp2_with fail
    refine (eq_seen _ _ _ _ _ _ E _ ((O5.out.sl.alloc (Nat.le_refl _) _).more (by simp)) ((O35.out.sl.alloc (Nat.le_refl _) _).more (by simp)) rfl HEL.out).mono ?_
    rintro e w6 ⟨rfl, b6'⟩
    obtain ⟨q6, z6, b6⟩ := boxed b6'
    have O56 := Lib.hid (O5.out.below b6 (Nat.le_refl _))
    have O36 := Lib.hid (O35.out.below b6 (Nat.le_refl _))
    have O46 := Lib.hid (O45.out.below b6 (Nat.le_refl _))
    have Q6 := QQ5.out.below b6 QQ5.out.lt
    have qw6 := QW5.out.below b6 QW5.out.lt
    have qx6 := QX5.out.below b6 QX5.out.lt
    have S6 := Lib.hid Q6
    have W6 := Lib.hid qw6
    have X6 := Lib.hid qx6
    have G6 := Lib.hid q6
    have y0 := Q6.get 0 rfl
    have y1 := Q6.get 1 rfl
    have u0 := qw6.get 0 rfl
    have u1 := qw6.get 1 rfl
    have v0 := qx6.get 0 rfl
    have v1 := qx6.get 1 rfl
    have t0 := q6.get 0 rfl
    have t1 := q6.get 1 rfl
    have B6 := Lib.hid (bstep B5.out b6 B5.out.size)
    clear b6 b6' q6 Q6 qw6 qx6
    go_wp2_with fail
    simp only [List.getElem_toArray, List.getElem_cons_zero, List.getElem_cons_succ] at y0 y1 u0 u1 v0 v1 t0 t1
    go_region_held3 (fun w' => w'.cell? ⟨w.heap.size, 0, none⟩ = some (.int .i64 cum) ∧ w'.cell? ⟨w.heap.size, 1, none⟩ = some (.slice A n c) ∧ w'.cell? ⟨w4.heap.size, 0, none⟩ = some (.int .i64 cum) ∧ w'.cell? ⟨w4.heap.size, 1, none⟩ = some (.slice A4 n c4)) (first | exact ⟨y0, y1, v0, v1⟩ | exact ⟨y0', y1', v0', v1'⟩ | exact ⟨y0'', y1'', v0'', v1''⟩ | go_keep)
      (first
        | (go_at_call 29; refine (to_seen _ _ _ _ zs _ ((HS.out.below (below_drewN B6.out 1) (Nat.le_refl _)).more B6.out.size) HN.out (by omega)).mono ?_; rintro e w7 ⟨A7, c7, rfl, o7, b7⟩; have O7 := Lib.hid (o7.sl); have O47 := Lib.hid (O46.out.drew.below b7 (Nat.le_refl _)); have X7 := Lib.hid (X6.out.drew.below b7 X6.out.lt); have S7 := Lib.hid (S6.out.drew.below b7 S6.out.lt); have v0' : w7.cell? ⟨w4.heap.size, 0, none⟩ = some (.int .i64 cum) := X7.out.get 0 rfl; have v1' : w7.cell? ⟨w4.heap.size, 1, none⟩ = some (.slice A4 n c4) := X7.out.get 1 rfl; have y0' : w7.cell? ⟨w.heap.size, 0, none⟩ = some (.int .i64 cum) := S7.out.get 0 rfl; have y1' : w7.cell? ⟨w.heap.size, 1, none⟩ = some (.slice A n c) := S7.out.get 1 rfl; have B7 := Lib.hid (bstep B6.out.drew b7 B6.out.size); have W7 := Lib.hid (W6.out.drew.below b7 W6.out.lt); have G7 := Lib.hid (G6.out.drew.below b7 G6.out.lt); have O57 := Lib.hid (O56.out.drew.below b7 (Nat.le_refl _)); have O37 := Lib.hid (O36.out.drew.below b7 (Nat.le_refl _)); clear o7 b7)
        | (go_at_call 30; refine (eq_seen _ _ _ _ _ _ zs _ O47.out.sl O7.out HN.out hm2).mono ?_; rintro e w8 ⟨rfl, b8⟩; have v0'' : w8.cell? ⟨w4.heap.size, 0, none⟩ = some (.int .i64 cum) := (X7.out.below b8 X7.out.lt).get 0 rfl; have v1'' : w8.cell? ⟨w4.heap.size, 1, none⟩ = some (.slice A4 n c4) := (X7.out.below b8 X7.out.lt).get 1 rfl; have y0'' : w8.cell? ⟨w.heap.size, 0, none⟩ = some (.int .i64 cum) := (S7.out.below b8 S7.out.lt).get 0 rfl; have y1'' : w8.cell? ⟨w.heap.size, 1, none⟩ = some (.slice A n c) := (S7.out.below b8 S7.out.lt).get 1 rfl; have B8 := Lib.hid b8; clear b8))
    have O48 := Lib.hid (O47.out.below B8.out (Nat.le_refl _))
    have O38 := Lib.hid (O37.out.below B8.out (Nat.le_refl _))
    have O58 := Lib.hid (O57.out.below B8.out (Nat.le_refl _))
    have X8 := Lib.hid (X7.out.below B8.out X7.out.lt)
    have S8 := Lib.hid (S7.out.below B8.out S7.out.lt)
    have W8 := Lib.hid (W7.out.below B8.out W7.out.lt)
    have G8 := Lib.hid (G7.out.below B8.out G7.out.lt)
    have B80 := Lib.hid (bstep B7.out B8.out B7.out.size)
    go_wp2_with fail
    refine (mark_seen _ _ _ _ 1 _ zs _ O48.out (by omega) (by omega)).mono ?_
    rintro e w9 ⟨rfl, o9, row9, g9, r9⟩
    have X9 := Lib.hid (blk_marked X8.out O48.out (by decide) g9 r9)
    have S9 := Lib.hid (blk_marked S8.out O48.out (by decide) g9 r9)
    have W9 := Lib.hid (blk_marked W8.out O48.out (by decide) g9 r9)
    have G9 := Lib.hid (blk_marked G8.out O48.out (by decide) g9 r9)
    have O49 := Lib.hid o9
    have O59 := Lib.hid (own_marked O58.out O48.out g9 r9 (fun a b ha hb => by
      have h1 := (O4.out.blk a ha).2.1
      have h2 := (O58.out.blk b hb).1
      simp only [World.size_alloc] at h2
      omega))
    have O39 := Lib.hid (own_marked O38.out O48.out g9 r9 (fun a b ha hb => by
      have h1 := (O4.out.blk a ha).1
      have h2 := (O3.out.blk b hb).2.1
      simp only [World.size_alloc] at h1
      omega))
    have B9 := Lib.hid (below_marked B80.out O48.out (by have := B3.out.size; simp only [World.size_alloc]; omega) g9 r9)
    have y0 := S9.out.get 0 rfl
    have y1 := S9.out.get 1 rfl
    have u0 := W9.out.get 0 rfl
    have u1 := W9.out.get 1 rfl
    have v0 := X9.out.get 0 rfl
    have v1 := X9.out.get 1 rfl
    have t0 := G9.out.get 0 rfl
    have t1 := G9.out.get 1 rfl
    have hl9 := G9.out.lt
    clear o9 g9 r9
    simp only [List.getElem_toArray, List.getElem_cons_zero, List.getElem_cons_succ] at y0 y1 u0 u1 v0 v1 t0 t1
    go_wp2_with fail
    refine (eq_seen _ _ _ _ _ _ E _ O59.out.sl O39.out.sl rfl HEL.out).mono ?_
    rintro e w10 ⟨rfl, b10⟩
    have O5a := Lib.hid (O59.out.below b10 (Nat.le_refl _))
    have O3a := Lib.hid (O39.out.below b10 (Nat.le_refl _))
    have Sa := Lib.hid (S9.out.below b10 S9.out.lt)
    have Wa := Lib.hid (W9.out.below b10 W9.out.lt)
    have Ga := Lib.hid (G9.out.below b10 G9.out.lt)
    have Ba := Lib.hid (bstep B9.out b10 B9.out.size)
    have y0 := Sa.out.get 0 rfl
    have y1 := Sa.out.get 1 rfl
    have u0 := Wa.out.get 0 rfl
    have u1 := Wa.out.get 1 rfl
    have t0 := Ga.out.get 0 rfl
    have t1 := Ga.out.get 1 rfl
    clear b10
    simp only [List.getElem_toArray, List.getElem_cons_zero, List.getElem_cons_succ] at y0 y1 u0 u1 t0 t1
    go_wp2_with fail
    refine (mark_seen _ _ _ _ 1 _ E _ O5a.out (by omega) HEM.out).mono ?_
    rintro e w11 ⟨rfl, o11, row11, g11, r11⟩
    have Sb := Lib.hid (blk_marked Sa.out O5a.out (by decide) g11 r11)
    have Wb := Lib.hid (blk_marked Wa.out O5a.out (by decide) g11 r11)
    have Gb := Lib.hid (blk_marked Ga.out O5a.out (by decide) g11 r11)
    have O5b := Lib.hid o11
    have O3b := Lib.hid (own_marked O3a.out O5a.out g11 r11 (fun a b ha hb => by
      have h1 := (O5.out.blk a ha).1
      have h2 := (O3.out.blk b hb).2.1
      simp only [World.size_alloc] at h1
      omega))
    have Bb := Lib.hid (below_marked Ba.out O5a.out (by have := B4.out.size; simp only [World.size_alloc]; omega) g11 r11)
    have y0 := Sb.out.get 0 rfl
    have y1 := Sb.out.get 1 rfl
    have u0 := Wb.out.get 0 rfl
    have u1 := Wb.out.get 1 rfl
    have t0 := Gb.out.get 0 rfl
    have t1 := Gb.out.get 1 rfl
    clear o11 g11 r11
    simp only [List.getElem_toArray, List.getElem_cons_zero, List.getElem_cons_succ] at y0 y1 u0 u1 t0 t1
    go_wp2_with fail
    refine (held_seen _ _ _ _ 1 _ O5b.out.sl (by omega) HEM.out).mono ?_
    rintro e w12 ⟨rfl, b12⟩
    have O5c := Lib.hid (O5b.out.below b12 (Nat.le_refl _))
    have O3c := Lib.hid (O3b.out.below b12 (Nat.le_refl _))
    have Sc := Lib.hid (Sb.out.below b12 Sb.out.lt)
    have Wc := Lib.hid (Wb.out.below b12 Wb.out.lt)
    have Gc := Lib.hid (Gb.out.below b12 Gb.out.lt)
    have Bc := Lib.hid (bstep Bb.out b12 Bb.out.size)
    have y0 := Sc.out.get 0 rfl
    have y1 := Sc.out.get 1 rfl
    clear b12 u0 u1 t0 t1
    simp only [List.getElem_toArray, List.getElem_cons_zero, List.getElem_cons_succ] at y0 y1
    go_wp2_with fail
    refine (to_seen _ _ _ _ zs _ ((HS.out.below Bc.out (Nat.le_refl _)).more Bc.out.size) HN.out (by omega)).mono ?_
    rintro e w13 ⟨A13, c13, rfl, o13, b13⟩
    have O13 := Lib.hid o13
    have O5d := Lib.hid (O5c.out.below b13 (Nat.le_refl _))
    have O3d := Lib.hid (O3c.out.below b13 (Nat.le_refl _))
    have Wd := Lib.hid (Wc.out.below b13 Wc.out.lt)
    have Gd := Lib.hid (Gc.out.below b13 Gc.out.lt)
    have Bd := Lib.hid (bstep Bc.out b13 Bc.out.size)
    clear b13 o13 y0 y1
    go_wp2_with fail
    refine (ISA.out _ _ _ _ O13.out.sl HN.out hm2).mono ?_
    rintro e w14 ⟨A14, c14, rfl, o14, b14⟩
    have O14 := Lib.hid o14
    have O5e := Lib.hid (O5d.out.below b14 (Nat.le_refl _))
    have O3e := Lib.hid (O3d.out.below b14 (Nat.le_refl _))
    have we := Wd.out.below b14 Wd.out.lt
    have We := Lib.hid we
    have ge := Gd.out.below b14 Gd.out.lt
    have Ge := Lib.hid ge
    have Be := Lib.hid (bstep Bd.out b14 Bd.out.size)
    have u0 := we.get 0 rfl
    have u1 := we.get 1 rfl
    have hl14 := we.lt
    have hl14' := ge.lt
    clear b14 o14 we ge
    simp only [List.getElem_toArray, List.getElem_cons_zero, List.getElem_cons_succ] at u0 u1
    go_wp2_with fail
    refine (eq_seen _ _ _ _ _ _ E _ ((O14.out.sl.alloc (Nat.le_refl _) _).more (by simp)) ((O3e.out.sl.alloc (Nat.le_refl _) _).more (by simp)) rfl HEL.out).mono ?_
    rintro e w15 ⟨rfl, b15'⟩
    obtain ⟨q15, z15, b15⟩ := boxed b15'
    have O5f := Lib.hid (O5e.out.below b15 (Nat.le_refl _))
    have gf := Ge.out.below b15 Ge.out.lt
    have Bf := Lib.hid (bstep Be.out b15 Be.out.size)
    have t0 := gf.get 0 rfl
    have t1 := gf.get 1 rfl
    clear b15 b15' q15 gf u0 u1
    simp only [List.getElem_toArray, List.getElem_cons_zero, List.getElem_cons_succ] at t0 t1
    go_wp2_with fail
    refine (held_seen _ _ _ _ 1 _ O5f.out.sl (by omega) HEM.out).mono ?_
    rintro e w16 ⟨rfl, b16⟩
    go_wp2
    go_ret
    exact ⟨rfl, bstep Bf.out b16 Bf.out.size⟩
end Go.Proofs.Ytglebkjhfofkcaa
