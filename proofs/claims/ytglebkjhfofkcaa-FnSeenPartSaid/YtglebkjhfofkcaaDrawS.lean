/-
  What the drawing functions of the laws on Seen return. Condition: the reader can be read.
-/
import Derived.Test.YtglebkjhfofkcaaSeenC
import Derived.Test.YtglebkjhfofkcaaDraw
import Derived.Deep.RegionHeld3
import Derived.Deep.DeepCutAuto
import Derived.Deep.RegionWith
import Derived.Deep.AppendLies
import Derived.Deep.RegionLaw
namespace Go.Proofs.Ytglebkjhfofkcaa
open Go.ChangeShapes Go.WideShapes Go.ChangeAt Go.RowKit
set_option linter.unusedVariables false

theorem good_any (g : Nat) (w : World) (L : Nat) (hr : RdB w g L) (hL : L ≤ 900000) : Calls Try.prog 86 #[.pointer (some ⟨g, 0, none⟩)] w (NumP 0 65535 g (L + 4) w) := by
  go_enter Try.func86, Try.ntmps86
  go_wp2_with fail
  refine (word_any _ _ _ hr hL).mono ?_
  rintro e w1 ⟨k, rfl, k0, k1, r1, g1⟩
  go_wp2
  all_goals
    go_ret
    exact ⟨_, rfl, by omega, by omega, r1, g1⟩
theorem near_any (g : Nat) (a : Int) (w : World) (L : Nat) (hr : RdB w g L) (hL : L ≤ 800000) : Calls Try.prog 84 #[.pointer (some ⟨g, 0, none⟩), .int .i64 a] w (NumP (-1) 65536 g (L + 5) w) := by
  by_cases ha : okB a = true
  · go_enter Try.func84, Try.ntmps84
    go_wp2_with fail
    refine (l3ok_any _ _).mono ?_
    rintro e w' ⟨rfl, rfl⟩
    go_wp2_with fail
    refine (pick_pos _ _ _ L hr (by omega) (by omega)).mono ?_
    rintro e w1 ⟨k, rfl, k0, k1, r1, g1, s1⟩
    clear s1
    by_cases hk : 0 < k
    · go_wp2_with fail
      refine (pick_pos _ _ _ _ (r1.alloc _) (by omega) (by omega)).mono ?_
      rintro e w2 ⟨j, rfl, j0, j1, r2, g2, s2⟩
      have hq : Blk w2 w1.heap.size ([0, 1, -1, 2, 32767, 32768, 32769, 5].map (Value.int .i64)).toArray 3 := (Blk.new w1 _ _).grown g2 (fun e => by have := r1.lt; injection e; omega)
      obtain ⟨v, hv, hc⟩ := lit_get _ hq j j0 (by simpa using j1)
      have G2 := Lib.hid (gb_trans (gb_alloc g1 _) g2 (fun k hk => .inl hk))
      have hs := sadd_range a v ha
      clear hq g2 s2 hv g1
      go_wp2_with (go_at_call 61; refine (l3add_any _ _ ha _).mono ?_; rintro e w' ⟨rfl, rfl⟩)
      go_ret
      exact ⟨_, rfl, by omega, by omega, r2.mono (by omega), G2.out⟩
    · go_wp2_with fail
      refine (word_any _ _ (L + 1) r1 (by omega)).mono ?_
      rintro e w2 ⟨j, rfl, j0, j1, r2, g2⟩
      go_wp2
      go_ret
      exact ⟨_, rfl, by omega, by omega, r2.mono (by omega), gb_trans g1 g2 (fun k hk => .inl hk)⟩
  · have ha : okB a = false := by simpa using ha
    go_enter Try.func84, Try.ntmps84
    go_wp2_with fail
    refine (l3ok_any _ _).mono ?_
    rintro e w' ⟨rfl, rfl⟩
    go_wp2_with fail
    refine (word_any _ _ L hr (by omega)).mono ?_
    rintro e w2 ⟨j, rfl, j0, j1, r2, g2⟩
    go_wp2
    go_ret
    exact ⟨_, rfl, by omega, by omega, r2.mono (by omega), g2⟩

theorem sa_ok {cum : Int} {zs : List Int} {tsn : Int} (hc : okB cum = true) : okB (saCum cum zs tsn) = true := by
  unfold saCum
  split
  · rfl
  · split
    · exact okB_mk (sadd_range cum _ hc)
    · exact hc
theorem sa_len {cum : Int} {zs : List Int} {tsn : Int} (hl : zs.length ≤ 17) : (saExtra cum zs tsn).length ≤ 17 := by
  unfold saExtra
  split
  · simp
  · split
    · exact extraTo_len _ _ _
    · exact hl
/-- A Seen that was drawn. -/
def SeenD (g L : Nat) (w : World) (e : Ending) (w' : World) : Prop :=
  ∃ (cum : Int) (A : Option Addr) (n c : Nat) (zs : List Int), e = .returned (.agg #[.int .i64 cum, .slice A n c]) ∧ zs.length = n ∧ n ≤ 18 ∧ Own w' w.heap.size 3 1 A n c (ints zs) ∧ RdB w' g L ∧ w.grownBy w' (some g)
set_option maxHeartbeats 3200000 in
set_option maxRecDepth 100000 in
theorem seen_drawn (g : Nat) (w : World) (L : Nat) (hr : RdB w g L) (hL : L ≤ 800000) : Calls Try.prog 68 #[.pointer (some ⟨g, 0, none⟩)] w (SeenD g (L + 30) w) := by
  obtain ⟨i0, hi, hz0, hz1, hz2⟩ := info_parts info_int'
  have hgl := hr.lt
  go_enter Try.func68, Try.ntmps68
  go_wp2_with fail
  refine (good_any _ _ L (hr.alloc _) (by omega)).mono ?_
  rintro e w1 ⟨k, rfl, k0, k1, r1, g1⟩
  have Q1 := Lib.hid ((Blk.new w #[.int .i64 0, .slice none 0 0] 26).grown g1 (fun e => by injection e; omega))
  have G1 := Lib.hid (gb_trans (World.grownBy_alloc w (.cells #[.int .i64 0, .slice none 0 0] 26) (some g)) g1 (fun k hk => .inl hk))
  clear g1
  have hk := okB_mk (show 0 ≤ k ∧ k < 65536 by omega)
  have ek : snCum k = sadd k (-1) := if_pos hk
  have hok1 := okB_mk (sadd_range k (-1) hk)
  go_wp2_with fail
  refine (sseen_new _ _).mono ?_
  rintro e w2 ⟨A2, c2, rfl, o2, b2⟩
  rw [ek]
  have O2 := Lib.hid (o2.lower Q1.out.lt)
  have Q2 := Lib.hid (Q1.out.below b2 Q1.out.lt)
  have r2 := r1.below b2 (Nat.le_refl _)
  have G2 := Lib.hid (gb_below G1.out b2 (by have := Q1.out.lt; omega))
  have hs2 := Q2.out.lt
  clear o2 b2 ek r1
  go_wp2_with fail
  refine (pick_pos _ _ _ _ (r2.alloc _) (by omega) (by omega)).mono ?_
  rintro e w3 ⟨m, rfl, m0, m1, r3, g3, s3⟩
  have Q3 := Lib.hid ((Q2.out.alloc _).grown g3 (fun e => by injection e; omega))
  have QS := Lib.hid ((Blk.new w2 _ _).grown g3 (fun e => by injection e; omega))
  have O3 := Lib.hid ((O2.out.alloc _).grown g3 (fun a ha => fun e => by injection e with e; have := (O2.out.blk a ha).1; omega))
  have G3 := Lib.hid (gb_trans (gb_alloc G2.out _) g3 (fun k hk => .inl hk))
  clear g3 s3 r2
  obtain ⟨mn, rfl⟩ := Int.eq_ofNat_of_zero_le m0
  go_wp2
  go_loopw [6] (fun i wr => ∃ (k : Nat) (cum : Int) (zs : List Int) (n' : Nat) (A : Option Addr) (c : Nat), k ≤ mn ∧ i = .int .i64 k ∧ okB cum = true ∧ Hid (zs.length = n') ∧ n' ≤ 17 ∧ Blk wr w2.heap.size #[.int .i64 cum, .slice A n' c] 26 ∧ Blk wr w.heap.size #[.int .i64 0, .slice none 0 0] 26 ∧ Own wr (w.heap.size + 1) 3 1 A n' c (ints zs) ∧ RdB wr g (L + 5 + k) ∧ w.grownBy wr (some g)) (fun i _ => mn - (intOf i).toNat)
  case atStart => exact ⟨0, _, [], 0, _, _, by omega, rfl, hok1, Lib.hid rfl, by omega, QS.out, Q3.out, O3.out, r3.mono (by omega), G3.out⟩
  case round =>
    obtain ⟨k, cum, zs, n', A, c, hk, rfl, hok, hzl, hn', hq, hq0, ho, hr4, hg4⟩ := hrel
    have Q := Lib.hid hq
    have Q0 := Lib.hid hq0
    have O := Lib.hid ho
    have G := Lib.hid hg4
    have x0 := hq.get 0 rfl
    have x1 := hq.get 1 rfl
    clear hq hq0 ho hg4
    by_cases hlt : k < mn
    · go_wp2_with fail
      go_region_with (first
          | (go_at_call 83; (with_reducible refine (pick_pos _ _ _ _ hr4.drew (by omega) (by omega)).mono ?_); rintro e w4 ⟨j, rfl, j0, j1, r4, g4, s4⟩; clear s4; have Q4 := Lib.hid (Q.out.drew.grown g4 (fun e => by injection e; omega)); have Q04 := Lib.hid (Q0.out.drew.grown g4 (fun e => by injection e; omega)); have O4 := Lib.hid (O.out.drew.grown g4 (fun a ha => fun e => by injection e with e; have := (O.out.blk a ha).1; omega)); have G4 := Lib.hid (gb_trans (gb_drew G.out) g4 (fun k hk => .inl hk)); have p0 := Q4.out.get 0 rfl; have p1 := Q4.out.get 1 rfl; have hw := IntWalk.i64_in (1 + j) (by omega); clear g4)
          | (go_at_call 61; refine (l3add_any _ _ hok _).mono ?_; rintro e w' ⟨rfl, rfl⟩)
          | (go_at_call 50; refine (sseen_add _ _ _ _ zs _ _ O4.out.sl hzl.out (by omega)).mono ?_; rintro e w5 ⟨A5, c5, rfl, o5, b5⟩; have Q5 := Lib.hid (Q4.out.below b5 Q4.out.lt); have Q05 := Lib.hid (Q04.out.below b5 Q04.out.lt); have O5 := Lib.hid (o5.lower Q04.out.lt); have r5 := r4.below b5 (Nat.le_refl _); have G5 := Lib.hid (gb_below G4.out b5 (by have := Q04.out.lt; omega)); have v0 := Q5.out.get 0 rfl; have v1 := Q5.out.get 1 rfl; have vf0 := Q5.out.frozen 0; have vf1 := Q5.out.frozen 1; clear o5 b5))
      all_goals
        go_wp2
        go_roundw
        case rel =>
          refine ⟨k + 1, saCum cum zs (sadd cum (1 + j)), saExtra cum zs (sadd cum (1 + j)), _, A5, c5, by omega, by go_num, sa_ok hok, Lib.hid rfl, sa_len (by rw [hzl.out]; exact hn'), ?_, (Q05.out.far (Nat.ne_of_lt (by simp; omega)) _).far (Nat.ne_of_lt (by simp; omega)) _, (O5.out.set_ne (O5.out.ne_blk Q5.out (by decide)) _).set_ne (O5.out.ne_blk Q5.out (by decide)) _, ((r5.setCell (by simp; omega) _).setCell (by simp; omega) _).mono (by omega), gb_setCell (gb_setCell G5.out (.inr (by simp; omega)) _) (.inr (by simp; omega)) _⟩
          have h := (Q5.out.set_ 0 (.int .i64 (saCum cum zs (sadd cum (1 + j))))).set_ 1 (.slice A5 (saExtra cum zs (sadd cum (1 + j))).length c5)
          simpa using h
        case measure => simp [intOf]; omega
    · go_wp2_with fail
      refine (pick_pos _ _ _ _ hr4 (by omega) (by omega)).mono ?_
      rintro e w4 ⟨j, rfl, j0, j1, r4, g4, s4⟩
      clear s4 x0 x1
      have Q4 := Lib.hid (Q.out.grown g4 (fun e => by injection e; omega))
      have Q04 := Lib.hid (Q0.out.grown g4 (fun e => by injection e; omega))
      have O4 := Lib.hid (O.out.grown g4 (fun a ha => fun e => by injection e with e; have := (O.out.blk a ha).1; omega))
      have G4 := Lib.hid (gb_trans G.out g4 (fun k hk => .inl hk))
      have p0 := Q4.out.get 0 rfl
      have p1 := Q4.out.get 1 rfl
      have pf0 := Q4.out.frozen 0
      have pf1 := Q4.out.frozen 1
      have y0 := Q04.out.get 0 rfl
      have y1 := Q04.out.get 1 rfl
      have yf0 := Q04.out.frozen 0
      have yf1 := Q04.out.frozen 1
      clear g4
      by_cases hj0 : j = 0
      · subst hj0
        go_wp2_with fail
        refine (word_any _ _ _ r4 (by omega)).mono ?_
        rintro e w5 ⟨v, rfl, v0, v1, r5, g5⟩
        have Q5 := Lib.hid (Q4.out.grown g5 (fun e => by injection e; omega))
        have Q05 := Lib.hid (Q04.out.grown g5 (fun e => by injection e; omega))
        have O5 := Lib.hid (O4.out.grown g5 (fun a ha => fun e => by injection e with e; have := (O4.out.blk a ha).1; omega))
        have G5 := Lib.hid (gb_trans G4.out g5 (fun k hk => .inl hk))
        have p0 := Q5.out.get 0 rfl
        have p1 := Q5.out.get 1 rfl
        have pf0 := Q5.out.frozen 0
        have pf1 := Q5.out.frozen 1
        have y0 := Q05.out.get 0 rfl
        have y1 := Q05.out.get 1 rfl
        have yf0 := Q05.out.frozen 0
        have yf1 := Q05.out.frozen 1
        clear g5
        go_wp2
        refine bodyPost_ret (v := .agg #[.int .i64 v, .slice A n' c]) (by simp [results, Try.results68, go_sem, y0, y1]) rfl ?_
        exact ⟨v, A, n', c, zs, rfl, hzl.out, by omega, (((O5.out.set_ne (O5.out.ne_blk Q5.out (by decide)) _).setLow (by simp) _).setLow (by simp) _).lower (by omega), (((r5.setCell (by simp; omega) _).setCell (by simp; omega) _).setCell (by simp; omega) _).mono (by omega), gb_setCell (gb_setCell (gb_setCell G5.out (.inr (by simp; omega)) _) (.inr (by simp)) _) (.inr (by simp)) _⟩
      by_cases hj1 : j = 1
      · subst hj1
        go_wp2_with fail
        go_region_law (first
          | (refine step_app _ (by rfl) _ _ _ (by rfl) (w.heap.size + 1) 3 i0 (.int .i64 0) 1 8 Try.underlying24 hi hz0 hz1 hz2 rfl (by decide) A n' c (ints zs) (by rfl) (O5.out.alloc _) (w5.heap.size + 1) (some ⟨w5.heap.size, 0, none⟩) 1 1 (ints [v]) (by rfl) (sl_new rfl) (by rfl) (ints_one _) (by unfold maxLen; omega) (by omega) (by simp only [World.size_alloc]; omega) ?_; intro A6 c6 row w6 o6 g6 r6 d6; have O6 := Lib.hid (by have h := o6; unfold ints at h; rw [← List.map_append] at h; exact h : Own w6 (w.heap.size + 1) 3 1 A6 (n' + 1) c6 (ints (zs ++ [v]))); have Q6 := Lib.hid (blk_at (Q5.out.alloc _) g6 r6 (O5.out.ne_blk Q5.out (by decide))); have Q06 := Lib.hid (blk_at (Q05.out.alloc _) g6 r6 (O5.out.ne_blk Q05.out (by decide))); have R6 := Lib.hid ((r5.alloc _).grown g6 (fun k hk => by obtain ⟨a, ha, hab⟩ := r6 k hk; have := (O5.out.blk a ha).1; omega)); have G6 := Lib.hid (gb_trans (gb_alloc G5.out _) g6 (fun k hk => .inr (by obtain ⟨a, ha, hab⟩ := r6 k hk; have := (O5.out.blk a ha).1; omega))); have p0 := Q6.out.get 0 rfl; have p1 := Q6.out.get 1 rfl; have pf0 := Q6.out.frozen 0; have pf1 := Q6.out.frozen 1; have y0 := Q06.out.get 0 rfl; have y1 := Q06.out.get 1 rfl; have yf0 := Q06.out.frozen 0; have yf1 := Q06.out.frozen 1; clear o6 g6 r6 d6)
          | (go_simp; go_at_call 83; (with_reducible refine (pick_pos _ _ _ _ r4.drew (by omega) (by omega)).mono ?_); rintro e w5 ⟨v, rfl, v0, v1, r5, g5, s5⟩; clear s5; have Q5 := Lib.hid (Q4.out.drew.grown g5 (fun e => by injection e; omega)); have Q05 := Lib.hid (Q04.out.drew.grown g5 (fun e => by injection e; omega)); have O5 := Lib.hid (O4.out.drew.grown g5 (fun a ha => fun e => by injection e with e; have := (O4.out.blk a ha).1; omega)); have G5 := Lib.hid (gb_trans (gb_drew G4.out) g5 (fun k hk => .inl hk)); have p0 := Q5.out.get 0 rfl; have p1 := Q5.out.get 1 rfl; have hl5 := Q5.out.lt; have hl05 := Q05.out.lt; clear g5))
        all_goals
          go_wp2
          refine bodyPost_ret (v := .agg #[.int .i64 cum, .slice A6 (n' + 1) c6]) (by simp [results, Try.results68, go_sem, y0, y1]) rfl ?_
          exact ⟨cum, A6, n' + 1, c6, zs ++ [v], rfl, by rw [List.length_append, hzl.out]; rfl, by omega, (((O6.out.set_ne (O6.out.ne_blk Q6.out (by decide)) _).setLow (by simp) _).setLow (by simp) _).lower (by omega), (((R6.out.setCell (by simp; omega) _).setCell (by simp; omega) _).setCell (by simp; omega) _).mono (by omega), gb_setCell (gb_setCell (gb_setCell G6.out (.inr (by simp; omega)) _) (.inr (by simp)) _) (.inr (by simp)) _⟩
      · have e0 : (j == 0) = false := by simpa using hj0
        have e1 : (j == 1) = false := by simpa using hj1
        clear hj0 hj1
        go_wp2
        refine bodyPost_ret (v := .agg #[.int .i64 cum, .slice A n' c]) (by simp [results, Try.results68, go_sem, y0, y1]) rfl ?_
        exact ⟨cum, A, n', c, zs, rfl, hzl.out, by omega, ((O4.out.setLow (by simp) _).setLow (by simp) _).lower (by omega), ((r4.setCell (by simp; omega) _).setCell (by simp; omega) _).mono (by omega), gb_setCell (gb_setCell G4.out (.inr (by simp)) _) (.inr (by simp)) _⟩
end Go.Proofs.Ytglebkjhfofkcaa
