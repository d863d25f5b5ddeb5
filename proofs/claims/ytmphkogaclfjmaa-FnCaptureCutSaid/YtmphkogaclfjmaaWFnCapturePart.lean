/-
  The walk of 'FnCapturePart'. Condition: both codes are slices of bytes.
-/
import Derived.Test.YtmphkogaclfjmaaDrawR2
import Derived.Test.YtmphkogaclfjmaaSlice
import Derived.Test.YtmphkogaclfjmaaFrame
import Derived.Deep.RegionHeld3
namespace Go.Proofs.Ytmphkogaclfjmaa
open Go.ChangeShapes Go.WideShapes Go.ChangeAt Go.RowKit
set_option linter.unusedVariables false
set_option linter.unusedSimpArgs false
theorem own_rapp {w : World} {base : Nat} {e : TypeId} {size n c : Nat} {A : Option Addr} {a b : List Rec} (h : Own w base e size A n c (recs a ++ recs b)) : Own w base e size A n c (recs (a ++ b)) := by rw [recs_app]; exact h
theorem sl_head {w : World} {B : Nat} {A : Option Addr} {l : List Rec} (h : Sl w B A (recs l)) (k : Nat) : Sl w B A (recs (l.take k)) := by
  have h2 := h.take (k * 2)
  unfold recs at h2 ⊢
  rwa [flat_take recC_len] at h2
set_option maxHeartbeats 3200000 in
set_option maxRecDepth 100000 in
theorem walkFnCapturePart (A : Option Addr) (n c : Nat) (A0 : Option Addr) (n0 c0 : Nat) (w : World) (h : Bts w A n c) (h0 : Bts w A0 n0 c0) :
    Calls Try.prog 4 #[.slice A n c, .slice A0 n0 c0] w fun e w' => e = .returned (.bool true) ∧ Below w.heap.size w w' := by
  obtain ⟨i0, hi, hz0, hz1, hz2⟩ := info_parts info_rec
  have hle := h.le
  have hle0 := h0.le
  have H := Lib.hid h; clear h h0
  by_cases hn : 1048576 < n
  · go_enter Try.func4, Try.ntmps4
    go_wp2
    go_ret
    exact ⟨rfl, Below.refl _ _⟩
  by_cases hn0 : 1048576 < n0
  · go_enter Try.func4, Try.ntmps4
    go_wp2
    go_ret
    exact ⟨rfl, Below.refl _ _⟩
  · go_enter Try.func4, Try.ntmps4
    go_wp2_with fail
    refine (draw_cap_valid _ _ _ _ H.out).mono ?_
    rintro e w1 ⟨A1, n1, c1, l, rfl, hl, hn1, hok, o1, b1⟩
    have s1 := b1.size
    have B1 := Lib.hid b1
    have le1 : w.heap.size ≤ w1.heap.size := by simpa using s1
    clear s1
    have O1_1 := Lib.hid o1
    clear b1 o1
    have HL := Lib.hid hl
    have HO := Lib.hid hok
    clear hl hok
    by_cases h1 : capB l = true
    · have H1 := Lib.hid h1
      go_wp2_with fail
      refine (icap_valid_eq h1 _ _ _ _ O1_1.out.sl HL.out (by omega) HO.out.txts).mono ?_
      rintro e w2 ⟨rfl, b2⟩
      have O1_2 := Lib.hid (O1_1.out.below b2 (Nat.le_refl _))
      have s2 := b2.size
      have B2 := Lib.hid (bstep B1.out b2 B1.out.size)
      have le2 : w1.heap.size ≤ w2.heap.size := by simpa using s2
      clear s2
      clear b2
      go_wp2_with fail
      refine (scap_valid_eq h1 _ _ _ _ O1_2.out.sl HL.out (by omega) HO.out.txts).mono ?_
      rintro e w3 ⟨rfl, b3⟩
      have O1_3 := Lib.hid (O1_2.out.below b3 (Nat.le_refl _))
      have s3 := b3.size
      have B3 := Lib.hid (bstep B2.out b3 B2.out.size)
      have le3 : w2.heap.size ≤ w3.heap.size := by simpa using s3
      clear s3
      clear b3
      clear h1
      by_cases hz : n1 = 0
      · subst hz
        go_wp2
        go_ret
        exact ⟨rfl, B3.out⟩
      · obtain ⟨k, hk⟩ : ∃ k : Nat, k = n0 % n1 := ⟨_, rfl⟩
        have hkn : k < n1 := by rw [hk]; exact Nat.mod_lt _ (by omega)
        have hk2 : (n0 : Int) % (n1 : Int) = (k : Int) := by rw [hk]; exact (Int.natCast_emod n0 n1).symm
        obtain ⟨ga, rfl⟩ := O1_3.out.some_of hz
        have hcap := (O1_3.out.cap_le)
        clear hk
        obtain ⟨AX, sx, hAX⟩ := slice_tail_any Try.underlying25 hi hz1 ga n1 c1 hcap.1 ((k : Int) + 1) (k + 1) (by omega) (by omega)
        have sh := fun w => slice_head Try.underlying25 hi ga n1 c1 (k : Int) k rfl (by omega) w
        have HAX := Lib.hid hAX
        have hw := IntWalk.i64_in ((k : Int) + 1) (by omega)
        have HP := Lib.hid (part_cap H1.out k (by rw [HL.out]; exact hkn))
        have HX := Lib.hid (show (l.take k ++ l.drop (k + 1)).length = k + (n1 - (k + 1)) from by rw [List.length_append, List.length_take, List.length_drop, HL.out]; omega)
        have HT := Lib.hid (show Txts (l.take k ++ l.drop (k + 1)) from fun r hr => by
            rcases List.mem_append.1 hr with hr | hr
            · exact HO.out.txts r (List.mem_of_mem_take hr)
            · exact HO.out.txts r (List.mem_of_mem_drop hr))
        clear hAX
        go_upto_region 9 with (fail)
        rw [hk2]
        clear hk2
        go_region_held3 (fun w' => True) (exact trivial)
          (first
            | (refine step_copy ((w3.alloc (.cells #[] 33)).drew) (by rfl) _ _ _ (by rfl) w3.heap.size 33 i0 (.agg #[.int .i64 0, .string ⟨#[]⟩]) 2 24 Try.underlying25 hi hz0 hz1 hz2 rfl (by decide) (some ⟨w3.heap.size, 0, none⟩) 0 (by rfl) (Own.made w3 w3.heap.size 33 2 #[] 0 (Nat.le_refl _) (by unfold maxLen; omega) rfl).drew w3.heap.size (some ⟨ga, 0, none⟩) k c1 (recs (l.take k)) (by rfl) ((sl_head (O1_3.out.sl) k).alloc (Nat.le_refl _) _).drew (by rw [recs_len, List.length_take, HL.out]; omega) (recs_one _) (by unfold maxLen; omega) (by omega) (by (try simp only [World.size_alloc, World.size_drew]); omega) ?_; intro A7 c7 row7 w7 o7 g7 r7 d7; have O7 := Lib.hid o7; have B7 := Lib.hid (below_at ((Below.refl w3.heap.size w3).alloc (Nat.le_refl _) _).drew (by (try simp only [World.size_alloc, World.size_drew]); omega) g7 r7 (fun a ha => by injection ha with ha; subst ha; simp)); have S7 := Lib.hid ((O1_3.out.sl.below B7.out (Nat.le_refl _)).more B7.out.size); clear o7 g7 r7 d7)
            | (refine step_app _ (by rfl) _ _ _ (by rfl) w3.heap.size 33 i0 (.agg #[.int .i64 0, .string ⟨#[]⟩]) 2 24 Try.underlying25 hi hz0 hz1 hz2 rfl (by decide) A7 k c7 (recs (l.take k)) (by rfl) O7.out _ AX (n1 - (k + 1)) (c1 - (k + 1)) (recs (l.drop (k + 1))) (by rfl) (sl_tail (flat_drop recC_len l (k + 1)) S7.out (by rw [HL.out]; exact HAX.out)) (by rw [recs_len, List.length_drop, HL.out]) (recs_one _) (by unfold maxLen; omega) (by omega) (by have := B7.out.size; (try simp only [World.size_alloc, World.size_drew]); omega) ?_; intro A8 c8 row8 w8 o8 g8 r8 d8; have O8 := Lib.hid (own_rapp o8); have B8 := Lib.hid (below_at B7.out (by have := B7.out.size; (try simp only [World.size_alloc, World.size_drew]); omega) g8 r8 (fun a ha => (O7.out.blk a ha).1)); clear o8 g8 r8 d8)
            | (go_at_call 21; refine (icap_valid_eq HP.out _ _ _ _ O8.out.sl HX.out (by omega) HT.out).mono ?_; rintro e w9 ⟨rfl, b9⟩; have B9 := Lib.hid b9; clear b9))
        all_goals
          go_wp2
          go_ret
          exact ⟨rfl, bstep (bstep B3.out B8.out B3.out.size) B9.out (Nat.le_trans B3.out.size B8.out.size)⟩
    · have h1 : capB l = false := by simpa using h1
      go_wp2_with fail
      refine (icap_valid_eq h1 _ _ _ _ O1_1.out.sl HL.out (by omega) HO.out.txts).mono ?_
      rintro e w2 ⟨rfl, b2⟩
      have O1_2 := Lib.hid (O1_1.out.below b2 (Nat.le_refl _))
      have s2 := b2.size
      have B2 := Lib.hid (bstep B1.out b2 B1.out.size)
      have le2 : w1.heap.size ≤ w2.heap.size := by simpa using s2
      clear s2
      clear b2
      go_wp2_with fail
      refine (scap_valid_eq h1 _ _ _ _ O1_2.out.sl HL.out (by omega) HO.out.txts).mono ?_
      rintro e w3 ⟨rfl, b3⟩
      have O1_3 := Lib.hid (O1_2.out.below b3 (Nat.le_refl _))
      have s3 := b3.size
      have B3 := Lib.hid (bstep B2.out b3 B2.out.size)
      have le3 : w2.heap.size ≤ w3.heap.size := by simpa using s3
      clear s3
      clear b3
      go_wp2
      go_ret
      exact ⟨rfl, B3.out⟩
end Go.Proofs.Ytmphkogaclfjmaa
