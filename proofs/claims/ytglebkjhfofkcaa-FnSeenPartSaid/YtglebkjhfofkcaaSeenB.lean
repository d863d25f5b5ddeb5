/-
  What the reference's SeenAdd returns. Conditions: the list can be read and is not too long.
-/
import Derived.Test.YtglebkjhfofkcaaSeenA0
namespace Go.Proofs.Ytglebkjhfofkcaa
open Go.ChangeShapes Go.WideShapes Go.ChangeAt Go.RowKit
set_option linter.unusedVariables false

def MoveP (cum : Int) (all : List Int) (w : World) (e : Ending) (w' : World) : Prop :=
  ∃ A c, e = .returned (.agg #[.int .i64 (sadd cum (moved all)), .slice A (extraTo all (moved all) 17).length c]) ∧ Own w' w.heap.size 3 1 A (extraTo all (moved all) 17).length c (ints (extraTo all (moved all) 17)) ∧ Below w.heap.size w w'
set_option maxHeartbeats 1000000 in
theorem move_any (cum : Int) (A : Option Addr) (n c : Nat) (all : List Int) (w : World) (hs : Sl w w.heap.size A (ints all)) (hn : all.length = n) (hm : n ≤ 1048576) (hc : okB cum = true) (h17 : hasB all 17 = false) :
    Calls Try.prog 82 #[.int .i64 cum, .slice A n c] w (MoveP cum all w) := by
  obtain ⟨i0, hi, hz0, hz1, hz2⟩ := info_parts info_int'
  have HS := Lib.hid hs; have HN := Lib.hid hn; have H17 := Lib.hid h17; clear hs hn h17
  go_enter Try.func82, Try.ntmps82
  go_wp2
  go_loop [5] (fun mv => ∃ m : Nat, m ≤ 16 ∧ mv = .int .i64 m ∧ Hid (moved all = moveN all (16 - m) m)) (fun mv => 16 - (intOf mv).toNat)
  case atStart => exact ⟨0, by omega, rfl, Lib.hid rfl⟩
  case round =>
    obtain ⟨m, hm16, rfl, hmv⟩ := hrel
    have HS1 := Lib.hid ((HS.out.alloc (Nat.le_refl _) _).more (by simp) : Sl (w.alloc (.cells #[.int .i64 0, .slice none 0 0] 26)) (w.alloc (.cells #[.int .i64 0, .slice none 0 0] 26)).heap.size A (ints all))
    by_cases hbm : hasB all ((m : Int) + 1) = true
    · have hm15 : m < 16 := by
        rcases Nat.lt_or_ge m 16 with h | h
        · exact h
        · have : m = 16 := by omega
          subst this
          have := H17.out
          rw [show ((16 : Nat) : Int) + 1 = 17 from rfl] at hbm
          rw [hbm] at this
          cases this
      have HM := Lib.hid (hmv.out.trans (move_yes hm15 hbm))
      clear hmv
      go_wp2_with (go_at_call 65; refine (l21has_any _ _ _ all _ _ HS1.out HN.out (by omega)).mono ?_; rintro e w' ⟨rfl, rfl⟩)
      go_round
      case rel => exact ⟨m + 1, by omega, by go_num, HM⟩
      case measure => simp [intOf]; omega
    · have hbm' : hasB all ((m : Int) + 1) = false := by simpa using hbm
      have HM := Lib.hid (hmv.out.trans (move_no hbm'))
      clear hmv hbm
      go_wp2_with (first | (go_at_call 65; refine (l21has_any _ _ _ all _ _ HS1.out HN.out (by omega)).mono ?_; rintro e w' ⟨rfl, rfl⟩) | (go_at_call 61; refine (l3add_any _ _ hc _).mono ?_; rintro e w' ⟨rfl, rfl⟩))
      have hbm'' := Lib.hid hbm'
      clear hbm'
      have le1 := Lib.hid (fun k => extraTo_len all m k)
      go_loopw [7] (fun i wr => ∃ (k : Nat) (A3 : Option Addr) (c3 : Nat), m + 1 ≤ k ∧ k ≤ 17 ∧ i = .int .i64 k ∧ Blk wr (w.heap.size + 2) #[.int .i64 (sadd cum m), .slice A3 (extraTo all m k).length c3] 26 ∧ Blk wr w.heap.size #[.int .i64 0, .slice none 0 0] 26 ∧
        Own wr (w.heap.size + 1) 3 1 A3 (extraTo all m k).length c3 (ints (extraTo all m k)) ∧ Below w.heap.size w wr) (fun i _ => 17 - (intOf i).toNat)
      case atStart =>
        have hown : Own (((w.alloc (.cells #[.int .i64 0, .slice none 0 0] 26)).alloc (.cells #[] 3)).alloc (.cells #[.int .i64 (sadd cum m), .slice (some ⟨w.heap.size + 1, 0, none⟩) 0 0] 26)) (w.heap.size + 1) 3 1 (some ⟨w.heap.size + 1, 0, none⟩) 0 0 [] := by
          have h := (Own.made (w.alloc (.cells #[.int .i64 0, .slice none 0 0] 26)) (w.heap.size + 1) 3 1 #[] 0 (by simp) (by unfold maxLen; omega) rfl).alloc (.cells #[.int .i64 (sadd cum m), .slice (some ⟨w.heap.size + 1, 0, none⟩) 0 0] 26)
          simpa using h
        obtain ⟨q1, _, q3, _, b3⟩ := boxed3 (Below.refl (((w.alloc (.cells #[.int .i64 0, .slice none 0 0] 26)).alloc (.cells #[] 3)).alloc (.cells #[.int .i64 (sadd cum m), .slice (some ⟨w.heap.size + 1, 0, none⟩) 0 0] 26)).heap.size _)
        exact ⟨m + 1, _, _, by omega, by omega, by simp, by rw [extraTo_start]; exact q3, q1, by rw [extraTo_start]; exact hown, b3⟩
      case round =>
        obtain ⟨k, A3, c3, hk0, hk1, rfl, hq3, hq0, ho3, hb3⟩ := hrel
        have Q3 := Lib.hid hq3
        have Q0 := Lib.hid hq0
        have O3 := Lib.hid ho3
        have B3 := Lib.hid hb3
        have hlen := le1.out k
        have HSr := Lib.hid ((HS.out.below hb3 (Nat.le_refl _)).more hb3.size)
        clear hq3 ho3 hb3 hq0
        by_cases hk : k ≤ 16
        · have hk' : (k : Int) ≤ 16 := by omega
          by_cases hbk : hasB all (k : Int) = true
          · have u0 : wr.cell? ⟨w.heap.size + 2, 0, none⟩ = some (.int .i64 (sadd cum m)) := Q3.out.get 0 rfl
            have u1 : wr.cell? ⟨w.heap.size + 2, 1, none⟩ = some (.slice A3 (extraTo all m k).length c3) := Q3.out.get 1 rfl
            have hst := Lib.hid (extraTo_step all m k (by omega))
            have hwl := Q3.out.lt
            go_wp2_with (first
              | (go_at_call 65; refine (l21has_any _ _ _ all _ _ HSr.out HN.out (by omega)).mono ?_; rintro e w' ⟨rfl, rfl⟩)
              | (at_builtin; refine wpList_app _ rfl _ _ _ rfl (w.heap.size + 1) 3 i0 (.int .i64 0) 1 8 Try.underlying24 hi hz0 hz1 hz2 rfl (by decide) A3 (extraTo all m k).length c3 (ints (extraTo all m k)) rfl (O3.out.alloc _) (wr.heap.size + 1) (some ⟨wr.heap.size, 0, none⟩) 1 1 (ints [(k : Int) - m]) rfl (sl_new rfl) rfl (ints_one _) (by unfold maxLen; omega) (by omega) (by simp; omega) ?_; intro A4 c4 row w4 o4 g4 r4 d4; have O4 := Lib.hid o4; have Q4 := Lib.hid (blk_at (Q3.out.alloc _) g4 r4 (O3.out.ne_blk Q3.out (by decide))); have Q04 := Lib.hid (blk_at (Q0.out.alloc _) g4 r4 (O3.out.ne_blk Q0.out (by decide))); have B4 := Lib.hid (below_at (B3.out.alloc (by omega) _) (by simp; omega) g4 r4 (fun a ha => Nat.le_trans (Nat.le_succ _) (O3.out.blk a ha).1)); have t0 : w4.cell? ⟨w.heap.size + 2, 0, none⟩ = some (.int .i64 (sadd cum m)) := Q4.out.get 0 rfl; have t1 : w4.cell? ⟨w.heap.size + 2, 1, none⟩ = some (.slice A3 (extraTo all m k).length c3) := Q4.out.get 1 rfl; have tf := Q4.out.frozen 1; clear o4 g4 r4 d4))
            go_roundw
            case rel =>
              have hnew : extraTo all m (k + 1) = extraTo all m k ++ [(k : Int) - m] := by rw [hst.out, if_pos hbk]
              refine ⟨k + 1, A4, c4, by omega, by omega, by go_num, ?_, Q04.out.far (Nat.ne_of_lt (by simp; omega)) _, ?_, B4.out.setCell (by simp; omega) _⟩
              · rw [hnew, List.length_append]
                have h := Q4.out.set_ 1 (.slice A4 ((extraTo all m k).length + 1) c4)
                simpa using h
              · rw [hnew, List.length_append]
                have h := O4.out.set_ne (p := ⟨w.heap.size + 2, 1, none⟩) (O4.out.ne_blk Q4.out (by decide)) (.slice A4 ((extraTo all m k).length + 1) c4)
                simpa [ints] using h
            case measure => simp [intOf]; omega
          · have hbk2 : hasB all (k : Int) = false := by simpa using hbk
            have hnew := Lib.hid (by rw [extraTo_step all m k (by omega), if_neg hbk, List.append_nil] : extraTo all m (k + 1) = extraTo all m k)
            clear hbk
            go_wp2_with (go_at_call 65; refine (l21has_any _ _ _ all _ _ HSr.out HN.out (by omega)).mono ?_; rintro e w' ⟨rfl, rfl⟩)
            go_roundw
            case rel => exact ⟨k + 1, A3, c3, by omega, by omega, by go_num, by rw [hnew.out]; exact Q3.out, Q0.out, by rw [hnew.out]; exact O3.out, B3.out⟩
            case measure => simp [intOf]; omega
        · have hk' : ¬ (k : Int) ≤ 16 := by omega
          have hk17 : k = 17 := by omega
          have u0 : wr.cell? ⟨w.heap.size + 2, 0, none⟩ = some (.int .i64 (sadd cum m)) := Q3.out.get 0 rfl
          have u1 : wr.cell? ⟨w.heap.size + 2, 1, none⟩ = some (.slice A3 (extraTo all m k).length c3) := Q3.out.get 1 rfl
          have y0 : wr.cell? ⟨w.heap.size, 0, none⟩ = some (.int .i64 0) := Q0.out.get 0 rfl
          have y1 : wr.cell? ⟨w.heap.size, 1, none⟩ = some (.slice none 0 0) := Q0.out.get 1 rfl
          have f0 := Q0.out.frozen 0
          have f1 := Q0.out.frozen 1
          have H17' := Lib.hid hk17
          clear hk17
          go_wp2
          refine bodyPost_ret (v := .agg #[.int .i64 (sadd cum m), .slice A3 (extraTo all m k).length c3]) (by simp [results, Try.results82, go_sem, y0, y1]) rfl ?_
          unfold MoveP
          rw [HM.out, ← H17'.out]
          exact ⟨_, _, rfl, ((O3.out.setLow (by simp) _).setLow (by simp) _).lower (by omega), (B3.out.setCell (Nat.le_refl _) _).setCell (Nat.le_refl _) _⟩
end Go.Proofs.Ytglebkjhfofkcaa
