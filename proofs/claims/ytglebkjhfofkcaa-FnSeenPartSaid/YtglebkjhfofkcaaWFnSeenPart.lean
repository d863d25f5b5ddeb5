/-
  The walk of 'FnSeenPart'. Condition: both codes are slices of bytes.
-/
import Derived.Test.YtglebkjhfofkcaaSackE
import Derived.Test.YtglebkjhfofkcaaSlice
import Derived.Test.YtglebkjhfofkcaaDrawS3
import Derived.Test.YtglebkjhfofkcaaFrame
import Derived.Deep.RegionHeld3
import Derived.Deep.DeepCutAuto
namespace Go.Proofs.Ytglebkjhfofkcaa
open Go.ChangeShapes Go.WideShapes Go.ChangeAt Go.RowKit
set_option linter.unusedVariables false
set_option linter.unusedSimpArgs false

theorem Own.cap_le {w : World} {base : Nat} {e : TypeId} {size g n c : Nat} {xs : List Value} (h : Own w base e size (some ⟨g, 0, none⟩) n c xs) : n ≤ c ∧ c ≤ maxLen := by
  rcases h.2 with ⟨hv, _⟩ | ⟨g', cap, cur, hv, _, _, hnc, hm, _⟩
  · injection hv with hA; cases hA
  · injection hv with _ _ hc
    subst hc
    exact ⟨hnc, hm⟩
theorem sseen_valid_eq {cum : Int} {zs : List Int} {v : Bool} (hv : seenOk cum zs = v) (A : Option Addr) (n c : Nat) (w : World) (hs : Sl w w.heap.size A (ints zs)) (hn : zs.length = n) (hm : n ≤ 9223372036854775807) :
    Calls Try.prog 32 #[.agg #[.int .i64 cum, .slice A n c]] w fun e w' => e = .returned (.bool v) ∧ Below w.heap.size w w' :=
  (sseen_valid cum A n c zs w hs hn hm).mono fun _ _ ⟨he, hb⟩ => ⟨by rw [he, hv], hb⟩
theorem ints_app (a b : List Int) : ints a ++ ints b = ints (a ++ b) := by unfold ints; rw [List.map_append]
theorem own_app {w : World} {base : Nat} {e : TypeId} {size n c : Nat} {A : Option Addr} {a b : List Int} (h : Own w base e size A n c (ints a ++ ints b)) : Own w base e size A n c (ints (a ++ b)) := by rw [ints_app] at h; exact h
theorem sl_ints_tail {w : World} {B g : Nat} {A' : Option Addr} {xs : List Int} {k : Nat} (h : Sl w B (some ⟨g, 0, none⟩) (ints xs)) (hA : k < xs.length → A' = some ⟨g, k * 1, none⟩) : Sl w B A' (ints (xs.drop k)) := by
  by_cases hk : k < xs.length
  · unfold ints
    rw [List.map_drop]
    refine Sl.drop h k (fun b off e _ => ?_)
    injection e with e
    injection e with e1 e2
    subst e1 e2
    rw [hA hk, Nat.zero_add, Nat.mul_one]
  · rw [List.drop_of_length_le (by omega)]
    exact Sl.nil _ _ _
theorem Sl.take2 {w : World} {B : Nat} {A : Option Addr} {xs : List Int} (h : Sl w B A (ints xs)) (k : Nat) : Sl w B A (ints (xs.take k)) := by
  unfold ints
  rw [List.map_take]
  exact h.take k
theorem asc_less : ∀ (a : List Int) (z : Int) (b : List Int) (low : Int), asc low (a ++ z :: b) = true → asc low (a ++ b) = true
  | [], z, b, low, h => by
    simp only [List.nil_append, asc, Bool.and_eq_true] at h ⊢
    have := inB_true h.1
    exact asc_low h.2 (by omega)
  | y :: a, z, b, low, h => by
    simp only [List.cons_append, asc, Bool.and_eq_true] at h ⊢
    exact ⟨h.1, asc_less a z b _ h.2⟩
theorem asc_twice : ∀ (a : List Int) (z : Int) (b : List Int) (low : Int), asc low (a ++ z :: z :: b) = false
  | [], z, b, low => by
    simp only [List.nil_append, asc]
    have : inB z (z + 1) 16 = false := inB_no (by omega)
    rw [this]
    simp
  | y :: a, z, b, low => by
    simp only [List.cons_append, asc]
    rw [asc_twice a z b]
    simp
theorem part_pure {cum : Int} {zs : List Int} (h : seenOk cum zs = true) (k : Nat) (hk : k < zs.length) : seenOk cum (zs.take k ++ zs.drop (k + 1)) = true ∧ seenOk cum (zs.take (k + 1) ++ zs.drop k) = false := by
  obtain ⟨h1, h2⟩ := seenOk_true h
  have e : zs = zs.take k ++ zs[k] :: zs.drop (k + 1) := by rw [← List.drop_eq_getElem_cons hk, List.take_append_drop]
  constructor
  · unfold seenOk
    rw [h2, Bool.and_true]
    rw [e] at h1
    exact asc_less _ _ _ _ h1
  · unfold seenOk
    have : zs.take (k + 1) ++ zs.drop k = zs.take k ++ zs[k] :: zs[k] :: zs.drop (k + 1) := by
      rw [List.take_succ_eq_append_getElem hk, List.drop_eq_getElem_cons hk, List.append_assoc]
      rfl
    rw [this, asc_twice]
    rfl
set_option maxHeartbeats 3200000 in
set_option maxRecDepth 100000 in
theorem walkFnSeenPart (A : Option Addr) (n c : Nat) (A0 : Option Addr) (n0 c0 : Nat) (w : World) (h : Bts w A n c) (h0 : Bts w A0 n0 c0) :
    Calls Try.prog 5 #[.slice A n c, .slice A0 n0 c0] w fun e w' => e = .returned (.bool true) ∧ Below w.heap.size w w' := by
  obtain ⟨i0, hi, hz0, hz1, hz2⟩ := info_parts info_int'
  have hle := h.le
  have hle0 := h0.le
  have H := Lib.hid h; clear h h0
  by_cases hn : 1048576 < n
  · go_enter Try.func5, Try.ntmps5
    go_wp2
    go_ret
    exact ⟨rfl, Below.refl _ _⟩
  by_cases hn0 : 1048576 < n0
  · go_enter Try.func5, Try.ntmps5
    go_wp2
    go_ret
    exact ⟨rfl, Below.refl _ _⟩
  · go_enter Try.func5, Try.ntmps5
    go_wp2_with fail
    refine (draw_seen_valid _ _ _ _ H.out).mono ?_
    rintro e w1 ⟨cum, A1, n1, c1, zs, rfl, hzl, hn1, o1, b1⟩
    have s1 := b1.size
    have B1 := Lib.hid b1
    have le1 : w.heap.size ≤ w1.heap.size := by simpa using s1
    clear s1
    have O1_1 := Lib.hid o1
    clear b1 o1
    have HZ := Lib.hid hzl
    clear hzl
    by_cases h1 : seenOk cum zs = true
    · have H1 := Lib.hid h1
      go_wp2_with fail
      refine (iseen_valid_eq h1 _ _ _ _ ((O1_1.out.sl.alloc (Nat.le_refl _) _).more (by simp)) HZ.out (by omega)).mono ?_
      rintro e w2 ⟨rfl, b2'⟩
      obtain ⟨q2_0, z2, b2⟩ := boxed b2'
      have O1_2 := Lib.hid (O1_1.out.below b2 (Nat.le_refl _))
      have s2 := b2.size
      have B2 := Lib.hid (bstep B1.out b2 B1.out.size)
      have le2 : w1.heap.size ≤ w2.heap.size := by simpa using s2
      clear s2
      have Qs_2 := Lib.hid q2_0
      clear b2 b2' q2_0
      have ls : w1.heap.size < w2.heap.size := Qs_2.out.lt
      have cs0 : w2.cell? ⟨w1.heap.size, 0, none⟩ = some (.int .i64 cum) := Qs_2.out.get 0 rfl
      have cs1 : w2.cell? ⟨w1.heap.size, 1, none⟩ = some (.slice A1 n1 c1) := Qs_2.out.get 1 rfl
      go_wp2_with fail
      refine (sseen_valid_eq h1 _ _ _ _ O1_2.out.sl HZ.out (by omega)).mono ?_
      rintro e w3 ⟨rfl, b3⟩
      clear ls cs0 cs1
      have O1_3 := Lib.hid (O1_2.out.below b3 (Nat.le_refl _))
      have Qs_3 := Lib.hid (Qs_2.out.below b3 Qs_2.out.lt)
      have s3 := b3.size
      have B3 := Lib.hid (bstep B2.out b3 B2.out.size)
      have le3 : w2.heap.size ≤ w3.heap.size := by simpa using s3
      clear s3
      clear b3
      have ls : w1.heap.size < w3.heap.size := Qs_3.out.lt
      have cs0 : w3.cell? ⟨w1.heap.size, 0, none⟩ = some (.int .i64 cum) := Qs_3.out.get 0 rfl
      have cs1 : w3.cell? ⟨w1.heap.size, 1, none⟩ = some (.slice A1 n1 c1) := Qs_3.out.get 1 rfl
      clear h1
      by_cases hz : n1 = 0
      · subst hz
        go_wp2
        go_ret
        exact ⟨rfl, B3.out⟩
      · obtain ⟨k, hk⟩ : ∃ k : Nat, k = n0 % n1 := ⟨_, rfl⟩
        have hkn : k < n1 := by rw [hk]; exact Nat.mod_lt _ (by omega)
        have hk2 : (n0 : Int) % (n1 : Int) = (k : Int) := by rw [hk]; exact (Int.natCast_emod n0 n1).symm
        obtain ⟨ga, rfl⟩ := O1_3.out.some_of hz
        have hcap := (O1_3.out.cap_le)
        clear hk
        obtain ⟨AX, sx, hAX⟩ := slice_tail_any Try.underlying24 hi hz1 ga n1 c1 hcap.1 ((k : Int) + 1) (k + 1) (by omega) (by omega)
        obtain ⟨AY, sy, hAY⟩ := slice_tail_any Try.underlying24 hi hz1 ga n1 c1 hcap.1 (k : Int) k rfl (by omega)
        have sh := fun w => slice_head Try.underlying24 hi ga n1 c1 ((k : Int) + 1) (k + 1) (by omega) (by omega) w
        have HAX := Lib.hid hAX; have HAY := Lib.hid hAY
        clear hAX hAY
        have i1 : (0 : Int) ≤ (k : Int) := by omega
        have i2 : (k : Int) < (n1 : Int) := by omega
        have i3 : (k : Int) ≤ (c1 : Int) := by omega
        have i4 : (k : Int) + 1 ≤ (n1 : Int) := by omega
        have i5 : (k : Int) + 1 ≤ (c1 : Int) := by omega
        have hw := IntWalk.i64_in ((k : Int) + 1) (by omega)
        go_upto_region 9 with (fail)
        rw [hk2]
        clear hk2
        go_cut [9] (fun s6 wx => CopyP cum (zs.take (k) ++ zs.drop (k + 1)) (k + (n1 - (k + 1))) w3 wx s6)
        case first =>
          go_region_held3 (fun w' => w'.cell? ⟨w1.heap.size, 0, none⟩ = some (.int .i64 cum) ∧ w'.cell? ⟨w1.heap.size, 1, none⟩ = some (.slice (some ⟨ga, 0, none⟩) n1 c1)) (first | exact ⟨cs0, cs1⟩ | exact ⟨pwa70, pwa71⟩ | exact ⟨pwb70, pwb71⟩ | exact ⟨(Qwa7.out.alloc _).get 0 rfl, (Qwa7.out.alloc _).get 1 rfl⟩ | exact ⟨((Qwb7.out.far (Nat.ne_of_lt (by first | exact Qwa7.out.lt | (simp; omega))) _).far (Nat.ne_of_lt (by first | exact Qwa7.out.lt | (simp; omega))) _).get 0 rfl, ((Qwb7.out.far (Nat.ne_of_lt (by first | exact Qwa7.out.lt | (simp; omega))) _).far (Nat.ne_of_lt (by first | exact Qwa7.out.lt | (simp; omega))) _).get 1 rfl⟩ | go_keep)
            (first
              | (refine step_copy ((w3.alloc (.cells #[] 3)).drew) (by rfl) _ _ _ (by rfl) w3.heap.size 3 i0 (.int .i64 0) 1 8 Try.underlying24 hi hz0 hz1 hz2 rfl (by decide) (some ⟨w3.heap.size, 0, none⟩) 0 (by rfl) (Own.made w3 w3.heap.size 3 1 #[] 0 (Nat.le_refl _) (by unfold maxLen; omega) rfl).drew w3.heap.size (some ⟨ga, 0, none⟩) k c1 (ints (zs.take (k))) (by rfl) (((O1_3.out.sl.take2 (k)).alloc (Nat.le_refl _) _).drew) (by rw [ints_len, List.length_take, HZ.out]; omega) (ints_one _) (by unfold maxLen; omega) (by omega) (by (try simp only [World.size_alloc, World.size_drew]); omega) ?_; intro A7 c7 row7 wa7 o7 g7 r7 d7; have Owa7 := Lib.hid o7; have Bwa7 := Lib.hid (below_at ((Below.refl w3.heap.size w3).alloc (Nat.le_refl _) _).drew (by (try simp only [World.size_alloc, World.size_drew]); omega) g7 r7 (fun a ha => by injection ha with ha; subst ha; simp)); have Qwa7 := Lib.hid (Qs_3.out.below Bwa7.out Qs_3.out.lt); have pwa70 : wa7.cell? ⟨w1.heap.size, 0, none⟩ = some (.int .i64 cum) := Qwa7.out.get 0 rfl; have pwa71 : wa7.cell? ⟨w1.heap.size, 1, none⟩ = some (.slice (some ⟨ga, 0, none⟩) n1 c1) := Qwa7.out.get 1 rfl; have Swa7 := Lib.hid ((O1_3.out.sl.below Bwa7.out (Nat.le_refl _)).more Bwa7.out.size); clear o7 g7 r7 d7)
              | (refine step_copy (((w3.alloc (.cells #[] 3)).alloc (.cells #[.int .i64 0, .slice none 0 0] 26)).drew) (by rfl) _ _ _ (by rfl) w3.heap.size 3 i0 (.int .i64 0) 1 8 Try.underlying24 hi hz0 hz1 hz2 rfl (by decide) (some ⟨w3.heap.size, 0, none⟩) 0 (by rfl) ((Own.made w3 w3.heap.size 3 1 #[] 0 (Nat.le_refl _) (by unfold maxLen; omega) rfl).alloc _).drew w3.heap.size (some ⟨ga, 0, none⟩) k c1 (ints (zs.take (k))) (by rfl) ((((O1_3.out.sl.take2 (k)).alloc (Nat.le_refl _) _).alloc (by simp) _).drew) (by rw [ints_len, List.length_take, HZ.out]; omega) (ints_one _) (by unfold maxLen; omega) (by omega) (by (try simp only [World.size_alloc, World.size_drew]); omega) ?_; intro A7 c7 row7 wa7 o7 g7 r7 d7; have Owa7 := Lib.hid o7; have Bwa7 := Lib.hid (below_at (((Below.refl w3.heap.size w3).alloc (Nat.le_refl _) _).alloc (by simp) _).drew (by (try simp only [World.size_alloc, World.size_drew]); omega) g7 r7 (fun a ha => by injection ha with ha; subst ha; simp)); have Qwa7 := Lib.hid (Qs_3.out.below Bwa7.out Qs_3.out.lt); have pwa70 : wa7.cell? ⟨w1.heap.size, 0, none⟩ = some (.int .i64 cum) := Qwa7.out.get 0 rfl; have pwa71 : wa7.cell? ⟨w1.heap.size, 1, none⟩ = some (.slice (some ⟨ga, 0, none⟩) n1 c1) := Qwa7.out.get 1 rfl; have Swa7 := Lib.hid ((O1_3.out.sl.below Bwa7.out (Nat.le_refl _)).more Bwa7.out.size); have Xwa7 : Blk wa7 (w3.heap.size + 1) #[.int .i64 0, .slice none 0 0] 26 := blk_at (by have h := (Blk.new (w3.alloc (.cells #[] 3)) #[.int .i64 0, .slice none 0 0] 26).drew; simpa using h) g7 r7 (fun a ha => by injection ha with ha; subst ha; simp); have XHwa7 := Lib.hid Xwa7; have k0 := Xwa7.get 0 rfl; have k1 := Xwa7.get 1 rfl; have kf0 := Xwa7.frozen 0; have kf1 := Xwa7.frozen 1; have kl := Xwa7.lt; clear Xwa7; clear o7 g7 r7 d7)
              | (refine step_copy (((w3.alloc (.cells #[.int .i64 0, .slice none 0 0] 26)).alloc (.cells #[] 3)).drew) (by rfl) _ _ _ (by rfl) w3.heap.size 3 i0 (.int .i64 0) 1 8 Try.underlying24 hi hz0 hz1 hz2 rfl (by decide) (some ⟨w3.heap.size + 1, 0, none⟩) 0 (by rfl) (by have h := (Own.made (w3.alloc (.cells #[.int .i64 0, .slice none 0 0] 26)) w3.heap.size 3 1 #[] 0 (by simp) (by unfold maxLen; omega) rfl).drew; simpa using h) w3.heap.size (some ⟨ga, 0, none⟩) k c1 (ints (zs.take (k))) (by rfl) ((((O1_3.out.sl.take2 (k)).alloc (Nat.le_refl _) _).alloc (by simp) _).drew) (by rw [ints_len, List.length_take, HZ.out]; omega) (ints_one _) (by unfold maxLen; omega) (by omega) (by (try simp only [World.size_alloc, World.size_drew]); omega) ?_; intro A7 c7 row7 wa7 o7 g7 r7 d7; have Owa7 := Lib.hid o7; have Bwa7 := Lib.hid (below_at (((Below.refl w3.heap.size w3).alloc (Nat.le_refl _) _).alloc (by simp) _).drew (by (try simp only [World.size_alloc, World.size_drew]); omega) g7 r7 (fun a ha => by injection ha with ha; subst ha; simp)); have Qwa7 := Lib.hid (Qs_3.out.below Bwa7.out Qs_3.out.lt); have pwa70 : wa7.cell? ⟨w1.heap.size, 0, none⟩ = some (.int .i64 cum) := Qwa7.out.get 0 rfl; have pwa71 : wa7.cell? ⟨w1.heap.size, 1, none⟩ = some (.slice (some ⟨ga, 0, none⟩) n1 c1) := Qwa7.out.get 1 rfl; have Swa7 := Lib.hid ((O1_3.out.sl.below Bwa7.out (Nat.le_refl _)).more Bwa7.out.size); have Xwa7 : Blk wa7 (w3.heap.size) #[.int .i64 0, .slice none 0 0] 26 := blk_at (((Blk.new w3 #[.int .i64 0, .slice none 0 0] 26).alloc _).drew) g7 r7 (fun a ha => by injection ha with ha; subst ha; simp); have XHwa7 := Lib.hid Xwa7; have k0 := Xwa7.get 0 rfl; have k1 := Xwa7.get 1 rfl; have kf0 := Xwa7.frozen 0; have kf1 := Xwa7.frozen 1; have kl := Xwa7.lt; clear Xwa7; clear o7 g7 r7 d7)
              | (refine step_app _ (by rfl) _ _ _ (by rfl) w3.heap.size 3 i0 (.int .i64 0) 1 8 Try.underlying24 hi hz0 hz1 hz2 rfl (by decide) A7 k c7 (ints (zs.take (k))) (by rfl) Owa7.out _ AX (n1 - (k + 1)) (c1 - (k + 1)) (ints (zs.drop (k + 1))) (by rfl) (sl_ints_tail Swa7.out (by rw [HZ.out]; exact HAX.out)) (by rw [ints_len, List.length_drop, HZ.out, Nat.mul_one]) (ints_one _) (by unfold maxLen; omega) (by omega) (by have := Bwa7.out.size; (try simp only [World.size_alloc, World.size_drew]); omega) ?_; intro A7b c7b row7 wb7 o7 g7 r7 d7; have Owb7 := Lib.hid (own_app o7); have Bwb7 := Lib.hid (below_at Bwa7.out (by have := Bwa7.out.size; (try simp only [World.size_alloc, World.size_drew]); omega) g7 r7 (fun a ha => (Owa7.out.blk a ha).1)); have Qwb7 := Lib.hid (Qs_3.out.below Bwb7.out Qs_3.out.lt); have pwb70 : wb7.cell? ⟨w1.heap.size, 0, none⟩ = some (.int .i64 cum) := Qwb7.out.get 0 rfl; have pwb71 : wb7.cell? ⟨w1.heap.size, 1, none⟩ = some (.slice (some ⟨ga, 0, none⟩) n1 c1) := Qwb7.out.get 1 rfl; have Swb7 := Lib.hid ((O1_3.out.sl.below Bwb7.out (Nat.le_refl _)).more Bwb7.out.size); have XT : True := trivial; try (have XHwb7 := Lib.hid (blk_at XHwa7.out g7 r7 (Owa7.out.ne_blk XHwa7.out (by decide))); have k0 := XHwb7.out.get 0 rfl; have k1 := XHwb7.out.get 1 rfl; have kf0 := XHwb7.out.frozen 0; have kf1 := XHwb7.out.frozen 1; have kl := XHwb7.out.lt); clear o7 g7 r7 d7)
              | (refine step_app _ (by rfl) _ _ _ (by rfl) w3.heap.size 3 i0 (.int .i64 0) 1 8 Try.underlying24 hi hz0 hz1 hz2 rfl (by decide) A7 k c7 (ints (zs.take (k))) (by rfl) (Owa7.out.alloc (.cells #[.int .i64 0, .slice none 0 0] 26)) _ AX (n1 - (k + 1)) (c1 - (k + 1)) (ints (zs.drop (k + 1))) (by rfl) (sl_ints_tail (Swa7.out.alloc (Nat.le_refl _) (.cells #[.int .i64 0, .slice none 0 0] 26)) (by rw [HZ.out]; exact HAX.out)) (by rw [ints_len, List.length_drop, HZ.out, Nat.mul_one]) (ints_one _) (by unfold maxLen; omega) (by omega) (by have := Bwa7.out.size; (try simp only [World.size_alloc, World.size_drew]); omega) ?_; intro A7b c7b row7 wb7 o7 g7 r7 d7; have Owb7 := Lib.hid (own_app o7); have Bwb7 := Lib.hid (below_at (Bwa7.out.alloc Bwa7.out.size (.cells #[.int .i64 0, .slice none 0 0] 26)) (by have := Bwa7.out.size; (try simp only [World.size_alloc, World.size_drew]); omega) g7 r7 (fun a ha => (Owa7.out.blk a ha).1)); have Qwb7 := Lib.hid (Qs_3.out.below Bwb7.out Qs_3.out.lt); have pwb70 : wb7.cell? ⟨w1.heap.size, 0, none⟩ = some (.int .i64 cum) := Qwb7.out.get 0 rfl; have pwb71 : wb7.cell? ⟨w1.heap.size, 1, none⟩ = some (.slice (some ⟨ga, 0, none⟩) n1 c1) := Qwb7.out.get 1 rfl; have Swb7 := Lib.hid ((O1_3.out.sl.below Bwb7.out (Nat.le_refl _)).more Bwb7.out.size); have Xwb7 : Blk wb7 wa7.heap.size #[.int .i64 0, .slice none 0 0] 26 := blk_at (Blk.new wa7 _ _) g7 r7 (fun a ha => by have := (Owa7.out.blk a ha).2.1; omega); have XHwb7 := Lib.hid Xwb7; have k0 := Xwb7.get 0 rfl; have k1 := Xwb7.get 1 rfl; have kf0 := Xwb7.frozen 0; have kf1 := Xwb7.frozen 1; have kl := Xwb7.lt; clear Xwb7; clear o7 g7 r7 d7))
          all_goals
            go_wp2_with fail
            go_meet
            first
              | exact ⟨wb7.heap.size, A7b, c7b, rfl, Blk.new wb7 _ _, Owb7.out.alloc _, Bwb7.out.alloc Bwb7.out.size _, Bwb7.out.size⟩
              | (refine ⟨_, A7b, c7b, rfl, ?_, (Owb7.out.set_ne (Owb7.out.ne_blk XHwb7.out (by decide)) _).set_ne (Owb7.out.ne_blk XHwb7.out (by decide)) _, (Bwb7.out.setCell (by first | (simp; done) | (have := Bwa7.out.size; simp; omega)) _).setCell (by first | (simp; done) | (have := Bwa7.out.size; simp; omega)) _, by first | (simp; done) | (have := Bwa7.out.size; simp; omega)⟩; have h := (XHwb7.out.set_ 0 (.int .i64 cum)).set_ 1 (.slice A7b (k + (n1 - (k + 1))) c7b); simpa using h)
        case rest =>
          obtain ⟨gx, AP, cP, rfl, qx, ox, bx, hgx⟩ := hcut
          obtain ⟨wo, rfl⟩ : ∃ wo : World, wo = wc := ⟨_, rfl⟩
          clear cs0 cs1 ls
          have Qx := Lib.hid qx
          have Ox := Lib.hid ox
          have Qsc := Lib.hid (Qs_3.out.below bx Qs_3.out.lt)
          have O1c := Lib.hid (O1_3.out.below bx (Nat.le_refl _))
          have BC := Lib.hid (bstep B3.out bx B3.out.size)
          have cs0 : wo.cell? ⟨w1.heap.size, 0, none⟩ = some (.int .i64 cum) := Qsc.out.get 0 rfl
          have cs1 : wo.cell? ⟨w1.heap.size, 1, none⟩ = some (.slice (some ⟨ga, 0, none⟩) n1 c1) := Qsc.out.get 1 rfl
          have ls : w1.heap.size < wo.heap.size := Qsc.out.lt
          have lx : gx < wo.heap.size := qx.lt
          clear qx ox bx
          go_upto_region 10 with (fail)
          go_cut [10] (fun s6 wx => CopyP cum (zs.take (k + 1) ++ zs.drop (k)) (k + 1 + (n1 - k)) wo wx s6)
          case first =>
            go_region_held3 (fun w' => w'.cell? ⟨w1.heap.size, 0, none⟩ = some (.int .i64 cum) ∧ w'.cell? ⟨w1.heap.size, 1, none⟩ = some (.slice (some ⟨ga, 0, none⟩) n1 c1)) (first | exact ⟨cs0, cs1⟩ | exact ⟨pwa80, pwa81⟩ | exact ⟨pwb80, pwb81⟩ | exact ⟨(Qwa8.out.alloc _).get 0 rfl, (Qwa8.out.alloc _).get 1 rfl⟩ | exact ⟨((Qwb8.out.far (Nat.ne_of_lt (by first | exact Qwa8.out.lt | (simp; omega))) _).far (Nat.ne_of_lt (by first | exact Qwa8.out.lt | (simp; omega))) _).get 0 rfl, ((Qwb8.out.far (Nat.ne_of_lt (by first | exact Qwa8.out.lt | (simp; omega))) _).far (Nat.ne_of_lt (by first | exact Qwa8.out.lt | (simp; omega))) _).get 1 rfl⟩ | go_keep)
              (first
                | (refine step_copy ((wo.alloc (.cells #[] 3)).drew) (by rfl) _ _ _ (by rfl) wo.heap.size 3 i0 (.int .i64 0) 1 8 Try.underlying24 hi hz0 hz1 hz2 rfl (by decide) (some ⟨wo.heap.size, 0, none⟩) 0 (by rfl) (Own.made wo wo.heap.size 3 1 #[] 0 (Nat.le_refl _) (by unfold maxLen; omega) rfl).drew wo.heap.size (some ⟨ga, 0, none⟩) (k + 1) c1 (ints (zs.take (k + 1))) (by rfl) (((O1c.out.sl.take2 (k + 1)).alloc (Nat.le_refl _) _).drew) (by rw [ints_len, List.length_take, HZ.out]; omega) (ints_one _) (by unfold maxLen; omega) (by omega) (by (try simp only [World.size_alloc, World.size_drew]); omega) ?_; intro A8 c8 row8 wa8 o8 g8 r8 d8; have Owa8 := Lib.hid o8; have Bwa8 := Lib.hid (below_at ((Below.refl wo.heap.size wo).alloc (Nat.le_refl _) _).drew (by (try simp only [World.size_alloc, World.size_drew]); omega) g8 r8 (fun a ha => by injection ha with ha; subst ha; simp)); have Qwa8 := Lib.hid (Qsc.out.below Bwa8.out Qsc.out.lt); have pwa80 : wa8.cell? ⟨w1.heap.size, 0, none⟩ = some (.int .i64 cum) := Qwa8.out.get 0 rfl; have pwa81 : wa8.cell? ⟨w1.heap.size, 1, none⟩ = some (.slice (some ⟨ga, 0, none⟩) n1 c1) := Qwa8.out.get 1 rfl; have Swa8 := Lib.hid ((O1c.out.sl.below Bwa8.out (Nat.le_refl _)).more Bwa8.out.size); clear o8 g8 r8 d8)
                | (refine step_copy (((wo.alloc (.cells #[] 3)).alloc (.cells #[.int .i64 0, .slice none 0 0] 26)).drew) (by rfl) _ _ _ (by rfl) wo.heap.size 3 i0 (.int .i64 0) 1 8 Try.underlying24 hi hz0 hz1 hz2 rfl (by decide) (some ⟨wo.heap.size, 0, none⟩) 0 (by rfl) ((Own.made wo wo.heap.size 3 1 #[] 0 (Nat.le_refl _) (by unfold maxLen; omega) rfl).alloc _).drew wo.heap.size (some ⟨ga, 0, none⟩) (k + 1) c1 (ints (zs.take (k + 1))) (by rfl) ((((O1c.out.sl.take2 (k + 1)).alloc (Nat.le_refl _) _).alloc (by simp) _).drew) (by rw [ints_len, List.length_take, HZ.out]; omega) (ints_one _) (by unfold maxLen; omega) (by omega) (by (try simp only [World.size_alloc, World.size_drew]); omega) ?_; intro A8 c8 row8 wa8 o8 g8 r8 d8; have Owa8 := Lib.hid o8; have Bwa8 := Lib.hid (below_at (((Below.refl wo.heap.size wo).alloc (Nat.le_refl _) _).alloc (by simp) _).drew (by (try simp only [World.size_alloc, World.size_drew]); omega) g8 r8 (fun a ha => by injection ha with ha; subst ha; simp)); have Qwa8 := Lib.hid (Qsc.out.below Bwa8.out Qsc.out.lt); have pwa80 : wa8.cell? ⟨w1.heap.size, 0, none⟩ = some (.int .i64 cum) := Qwa8.out.get 0 rfl; have pwa81 : wa8.cell? ⟨w1.heap.size, 1, none⟩ = some (.slice (some ⟨ga, 0, none⟩) n1 c1) := Qwa8.out.get 1 rfl; have Swa8 := Lib.hid ((O1c.out.sl.below Bwa8.out (Nat.le_refl _)).more Bwa8.out.size); have Xwa8 : Blk wa8 (wo.heap.size + 1) #[.int .i64 0, .slice none 0 0] 26 := blk_at (by have h := (Blk.new (wo.alloc (.cells #[] 3)) #[.int .i64 0, .slice none 0 0] 26).drew; simpa using h) g8 r8 (fun a ha => by injection ha with ha; subst ha; simp); have XHwa8 := Lib.hid Xwa8; have k0 := Xwa8.get 0 rfl; have k1 := Xwa8.get 1 rfl; have kf0 := Xwa8.frozen 0; have kf1 := Xwa8.frozen 1; have kl := Xwa8.lt; clear Xwa8; clear o8 g8 r8 d8)
                | (refine step_copy (((wo.alloc (.cells #[.int .i64 0, .slice none 0 0] 26)).alloc (.cells #[] 3)).drew) (by rfl) _ _ _ (by rfl) wo.heap.size 3 i0 (.int .i64 0) 1 8 Try.underlying24 hi hz0 hz1 hz2 rfl (by decide) (some ⟨wo.heap.size + 1, 0, none⟩) 0 (by rfl) (by have h := (Own.made (wo.alloc (.cells #[.int .i64 0, .slice none 0 0] 26)) wo.heap.size 3 1 #[] 0 (by simp) (by unfold maxLen; omega) rfl).drew; simpa using h) wo.heap.size (some ⟨ga, 0, none⟩) (k + 1) c1 (ints (zs.take (k + 1))) (by rfl) ((((O1c.out.sl.take2 (k + 1)).alloc (Nat.le_refl _) _).alloc (by simp) _).drew) (by rw [ints_len, List.length_take, HZ.out]; omega) (ints_one _) (by unfold maxLen; omega) (by omega) (by (try simp only [World.size_alloc, World.size_drew]); omega) ?_; intro A8 c8 row8 wa8 o8 g8 r8 d8; have Owa8 := Lib.hid o8; have Bwa8 := Lib.hid (below_at (((Below.refl wo.heap.size wo).alloc (Nat.le_refl _) _).alloc (by simp) _).drew (by (try simp only [World.size_alloc, World.size_drew]); omega) g8 r8 (fun a ha => by injection ha with ha; subst ha; simp)); have Qwa8 := Lib.hid (Qsc.out.below Bwa8.out Qsc.out.lt); have pwa80 : wa8.cell? ⟨w1.heap.size, 0, none⟩ = some (.int .i64 cum) := Qwa8.out.get 0 rfl; have pwa81 : wa8.cell? ⟨w1.heap.size, 1, none⟩ = some (.slice (some ⟨ga, 0, none⟩) n1 c1) := Qwa8.out.get 1 rfl; have Swa8 := Lib.hid ((O1c.out.sl.below Bwa8.out (Nat.le_refl _)).more Bwa8.out.size); have Xwa8 : Blk wa8 (wo.heap.size) #[.int .i64 0, .slice none 0 0] 26 := blk_at (((Blk.new wo #[.int .i64 0, .slice none 0 0] 26).alloc _).drew) g8 r8 (fun a ha => by injection ha with ha; subst ha; simp); have XHwa8 := Lib.hid Xwa8; have k0 := Xwa8.get 0 rfl; have k1 := Xwa8.get 1 rfl; have kf0 := Xwa8.frozen 0; have kf1 := Xwa8.frozen 1; have kl := Xwa8.lt; clear Xwa8; clear o8 g8 r8 d8)
                | (refine step_app _ (by rfl) _ _ _ (by rfl) wo.heap.size 3 i0 (.int .i64 0) 1 8 Try.underlying24 hi hz0 hz1 hz2 rfl (by decide) A8 (k + 1) c8 (ints (zs.take (k + 1))) (by rfl) Owa8.out _ AY (n1 - (k)) (c1 - (k)) (ints (zs.drop (k))) (by rfl) (sl_ints_tail Swa8.out (by rw [HZ.out]; exact HAY.out)) (by rw [ints_len, List.length_drop, HZ.out, Nat.mul_one]) (ints_one _) (by unfold maxLen; omega) (by omega) (by have := Bwa8.out.size; (try simp only [World.size_alloc, World.size_drew]); omega) ?_; intro A8b c8b row8 wb8 o8 g8 r8 d8; have Owb8 := Lib.hid (own_app o8); have Bwb8 := Lib.hid (below_at Bwa8.out (by have := Bwa8.out.size; (try simp only [World.size_alloc, World.size_drew]); omega) g8 r8 (fun a ha => (Owa8.out.blk a ha).1)); have Qwb8 := Lib.hid (Qsc.out.below Bwb8.out Qsc.out.lt); have pwb80 : wb8.cell? ⟨w1.heap.size, 0, none⟩ = some (.int .i64 cum) := Qwb8.out.get 0 rfl; have pwb81 : wb8.cell? ⟨w1.heap.size, 1, none⟩ = some (.slice (some ⟨ga, 0, none⟩) n1 c1) := Qwb8.out.get 1 rfl; have Swb8 := Lib.hid ((O1c.out.sl.below Bwb8.out (Nat.le_refl _)).more Bwb8.out.size); have XT : True := trivial; try (have XHwb8 := Lib.hid (blk_at XHwa8.out g8 r8 (Owa8.out.ne_blk XHwa8.out (by decide))); have k0 := XHwb8.out.get 0 rfl; have k1 := XHwb8.out.get 1 rfl; have kf0 := XHwb8.out.frozen 0; have kf1 := XHwb8.out.frozen 1; have kl := XHwb8.out.lt); clear o8 g8 r8 d8)
                | (refine step_app _ (by rfl) _ _ _ (by rfl) wo.heap.size 3 i0 (.int .i64 0) 1 8 Try.underlying24 hi hz0 hz1 hz2 rfl (by decide) A8 (k + 1) c8 (ints (zs.take (k + 1))) (by rfl) (Owa8.out.alloc (.cells #[.int .i64 0, .slice none 0 0] 26)) _ AY (n1 - (k)) (c1 - (k)) (ints (zs.drop (k))) (by rfl) (sl_ints_tail (Swa8.out.alloc (Nat.le_refl _) (.cells #[.int .i64 0, .slice none 0 0] 26)) (by rw [HZ.out]; exact HAY.out)) (by rw [ints_len, List.length_drop, HZ.out, Nat.mul_one]) (ints_one _) (by unfold maxLen; omega) (by omega) (by have := Bwa8.out.size; (try simp only [World.size_alloc, World.size_drew]); omega) ?_; intro A8b c8b row8 wb8 o8 g8 r8 d8; have Owb8 := Lib.hid (own_app o8); have Bwb8 := Lib.hid (below_at (Bwa8.out.alloc Bwa8.out.size (.cells #[.int .i64 0, .slice none 0 0] 26)) (by have := Bwa8.out.size; (try simp only [World.size_alloc, World.size_drew]); omega) g8 r8 (fun a ha => (Owa8.out.blk a ha).1)); have Qwb8 := Lib.hid (Qsc.out.below Bwb8.out Qsc.out.lt); have pwb80 : wb8.cell? ⟨w1.heap.size, 0, none⟩ = some (.int .i64 cum) := Qwb8.out.get 0 rfl; have pwb81 : wb8.cell? ⟨w1.heap.size, 1, none⟩ = some (.slice (some ⟨ga, 0, none⟩) n1 c1) := Qwb8.out.get 1 rfl; have Swb8 := Lib.hid ((O1c.out.sl.below Bwb8.out (Nat.le_refl _)).more Bwb8.out.size); have Xwb8 : Blk wb8 wa8.heap.size #[.int .i64 0, .slice none 0 0] 26 := blk_at (Blk.new wa8 _ _) g8 r8 (fun a ha => by have := (Owa8.out.blk a ha).2.1; omega); have XHwb8 := Lib.hid Xwb8; have k0 := Xwb8.get 0 rfl; have k1 := Xwb8.get 1 rfl; have kf0 := Xwb8.frozen 0; have kf1 := Xwb8.frozen 1; have kl := Xwb8.lt; clear Xwb8; clear o8 g8 r8 d8))
            all_goals
              go_wp2_with fail
              go_meet
              first
                | exact ⟨wb8.heap.size, A8b, c8b, rfl, Blk.new wb8 _ _, Owb8.out.alloc _, Bwb8.out.alloc Bwb8.out.size _, Bwb8.out.size⟩
                | (refine ⟨_, A8b, c8b, rfl, ?_, (Owb8.out.set_ne (Owb8.out.ne_blk XHwb8.out (by decide)) _).set_ne (Owb8.out.ne_blk XHwb8.out (by decide)) _, (Bwb8.out.setCell (by first | (simp; done) | (have := Bwa8.out.size; simp; omega)) _).setCell (by first | (simp; done) | (have := Bwa8.out.size; simp; omega)) _, by first | (simp; done) | (have := Bwa8.out.size; simp; omega)⟩; have h := (XHwb8.out.set_ 0 (.int .i64 cum)).set_ 1 (.slice A8b (k + 1 + (n1 - k)) c8b); simpa using h)
          case rest =>
            obtain ⟨gy, AQ, cQ, rfl, qy, oy, by', hgy⟩ := hcut
            clear cs0 cs1 ls lx
            have Qxc := Lib.hid (Qx.out.below by' Qx.out.lt)
            have Oxc := Lib.hid (Ox.out.below by' (Nat.le_refl _))
            have Qy := Lib.hid qy
            have Oy := Lib.hid oy
            have BD := Lib.hid (bstep BC.out by' BC.out.size)
            have u0 : wc.cell? ⟨gx, 0, none⟩ = some (.int .i64 cum) := Qxc.out.get 0 rfl
            have u1 : wc.cell? ⟨gx, 1, none⟩ = some (.slice AP (k + (n1 - (k + 1))) cP) := Qxc.out.get 1 rfl
            clear qy oy by'
            go_wp2_with fail
            refine (iseen_valid_eq (part_pure H1.out k (by rw [HZ.out]; exact hkn)).1 _ _ _ _ Oxc.out.sl (by rw [List.length_append, List.length_take, List.length_drop, HZ.out]; omega) (by omega)).mono ?_
            rintro e w9 ⟨rfl, b9⟩
            have Qy9 := Lib.hid (Qy.out.below b9 Qy.out.lt)
            have Oy9 := Lib.hid (Oy.out.below b9 (Nat.le_refl _))
            have B9 := Lib.hid (bstep BD.out b9 BD.out.size)
            have v0 : w9.cell? ⟨gy, 0, none⟩ = some (.int .i64 cum) := Qy9.out.get 0 rfl
            have v1 : w9.cell? ⟨gy, 1, none⟩ = some (.slice AQ (k + 1 + (n1 - k)) cQ) := Qy9.out.get 1 rfl
            clear b9 u0 u1
            go_wp2_with fail
            refine (iseen_valid_eq (part_pure H1.out k (by rw [HZ.out]; exact hkn)).2 _ _ _ _ Oy9.out.sl (by rw [List.length_append, List.length_take, List.length_drop, HZ.out]; omega) (by omega)).mono ?_
            rintro e w10 ⟨rfl, b10⟩
            go_wp2
            go_ret
            exact ⟨rfl, bstep B9.out b10 B9.out.size⟩
    · have h1 : seenOk cum zs = false := by simpa using h1
      go_wp2_with fail
      refine (iseen_valid_eq h1 _ _ _ _ ((O1_1.out.sl.alloc (Nat.le_refl _) _).more (by simp)) HZ.out (by omega)).mono ?_
      rintro e w2 ⟨rfl, b2'⟩
      obtain ⟨q2_0, z2, b2⟩ := boxed b2'
      have O1_2 := Lib.hid (O1_1.out.below b2 (Nat.le_refl _))
      have s2 := b2.size
      have B2 := Lib.hid (bstep B1.out b2 B1.out.size)
      have le2 : w1.heap.size ≤ w2.heap.size := by simpa using s2
      clear s2
      have Qs_2 := Lib.hid q2_0
      clear b2 b2' q2_0
      have ls : w1.heap.size < w2.heap.size := Qs_2.out.lt
      have cs0 : w2.cell? ⟨w1.heap.size, 0, none⟩ = some (.int .i64 cum) := Qs_2.out.get 0 rfl
      have cs1 : w2.cell? ⟨w1.heap.size, 1, none⟩ = some (.slice A1 n1 c1) := Qs_2.out.get 1 rfl
      go_wp2_with fail
      refine (sseen_valid_eq h1 _ _ _ _ O1_2.out.sl HZ.out (by omega)).mono ?_
      rintro e w3 ⟨rfl, b3⟩
      clear ls cs0 cs1
      have O1_3 := Lib.hid (O1_2.out.below b3 (Nat.le_refl _))
      have Qs_3 := Lib.hid (Qs_2.out.below b3 Qs_2.out.lt)
      have s3 := b3.size
      have B3 := Lib.hid (bstep B2.out b3 B2.out.size)
      have le3 : w2.heap.size ≤ w3.heap.size := by simpa using s3
      clear s3
      clear b3
      have ls : w1.heap.size < w3.heap.size := Qs_3.out.lt
      have cs0 : w3.cell? ⟨w1.heap.size, 0, none⟩ = some (.int .i64 cum) := Qs_3.out.get 0 rfl
      have cs1 : w3.cell? ⟨w1.heap.size, 1, none⟩ = some (.slice A1 n1 c1) := Qs_3.out.get 1 rfl
      go_wp2
      go_ret
      exact ⟨rfl, B3.out⟩
end Go.Proofs.Ytglebkjhfofkcaa
