/-
  The walk of 'FnCaptureTimes'. Condition: the code is a slice of bytes.
-/
import Derived.Test.YtmphkogaclfjmaaDrawR2
import Derived.Test.YtmphkogaclfjmaaWFnCapturePart
import Derived.Test.YtmphkogaclfjmaaFrame
import Derived.Deep.DeepCutAuto
namespace Go.Proofs.Ytmphkogaclfjmaa
open Go.ChangeShapes Go.WideShapes Go.ChangeAt Go.RowKit
set_option linter.unusedVariables false
set_option linter.unusedSimpArgs false
set_option maxHeartbeats 3200000 in
set_option maxRecDepth 100000 in
theorem walkFnCaptureTimes (A : Option Addr) (n c : Nat) (w : World) (h : Bts w A n c) :
    Calls Try.prog 5 #[.slice A n c] w fun e w' => e = .returned (.bool true) ∧ Below w.heap.size w w' := by
  obtain ⟨i0, hi, hz0, hz1, hz2⟩ := info_parts info_rec
  have hle := h.le
  have H := Lib.hid h; clear h
  by_cases hn : 1048576 < n
  · go_enter Try.func5, Try.ntmps5
    go_wp2
    go_ret
    exact ⟨rfl, Below.refl _ _⟩
  · go_enter Try.func5, Try.ntmps5
    go_wp2_with fail
    refine (draw_cap_valid _ _ _ _ H.out).mono ?_
    rintro e w1 ⟨A1, n1, c1, l, rfl, hl, hn1, hok, o1, b1⟩
    have s1 := b1.size
    have B1 := Lib.hid b1
    have le1 : w.heap.size ≤ w1.heap.size := by simpa using s1
    clear s1
    have O1_1 := Lib.hid o1
    clear b1 o1
    have HL := Lib.hid hl
    have HO := Lib.hid hok
    clear hl hok
    by_cases h1 : capB l = true
    · have H1 := Lib.hid h1
      go_wp2_with fail
      refine (icap_valid_eq h1 _ _ _ _ O1_1.out.sl HL.out (by omega) HO.out.txts).mono ?_
      rintro e w2 ⟨rfl, b2⟩
      have O1_2 := Lib.hid (O1_1.out.below b2 (Nat.le_refl _))
      have s2 := b2.size
      have B2 := Lib.hid (bstep B1.out b2 B1.out.size)
      have le2 : w1.heap.size ≤ w2.heap.size := by simpa using s2
      clear s2
      clear b2
      go_wp2_with fail
      refine (scap_valid_eq h1 _ _ _ _ O1_2.out.sl HL.out (by omega) HO.out.txts).mono ?_
      rintro e w3 ⟨rfl, b3⟩
      have O1_3 := Lib.hid (O1_2.out.below b3 (Nat.le_refl _))
      have s3 := b3.size
      have B3 := Lib.hid (bstep B2.out b3 B2.out.size)
      have le3 : w2.heap.size ≤ w3.heap.size := by simpa using s3
      clear s3
      clear b3
      obtain ⟨p1, p2, p3, p4⟩ := times_pure h1
      rw [HL.out] at p1
      have n60 : n1 ≤ 60 := by have := (capB_true h1).1; have := HL.out; omega
      have HLast := Lib.hid (fun r => lastT_last l 0 r)
      have HT0 := Lib.hid (fun (h : l = []) => (by rw [h]; rfl : lastT 0 l = 0))
      generalize lastT 0 l = T at p1 p2 p3 p4 HLast HT0
      have P1 := Lib.hid p1; have P2 := Lib.hid p2
      clear h1 p1 p2
      have TX := Lib.hid (show Txts (l ++ [(T, ⟨#[]⟩)]) from fun r hr => by
        rcases List.mem_append.1 hr with hr | hr
        · exact HO.out.txts r hr
        · simp at hr; subst hr; show 0 ≤ _; omega)
      have TY := Lib.hid (show Txts (l ++ [(T - 1, ⟨#[]⟩)]) from fun r hr => by
        rcases List.mem_append.1 hr with hr | hr
        · exact HO.out.txts r hr
        · simp at hr; subst hr; show 0 ≤ _; omega)
      have LX := Lib.hid (show (l ++ [(T, (⟨#[]⟩ : ByteArray))]).length = n1 + 1 from by rw [List.length_append, HL.out]; rfl)
      have LY := Lib.hid (show (l ++ [(T - 1, (⟨#[]⟩ : ByteArray))]).length = n1 + 1 from by rw [List.length_append, HL.out]; rfl)
      have key : ∀ (m : Int), m = T → True := fun _ _ => trivial
      go_upto_if 30 with (fail)
      go_cut [6] (fun s6 wx => s6 = .int .i64 T ∧ wx = w3)
      case first =>
        by_cases hz : n1 = 0
        · subst hz
          have hl0 : l = [] := List.eq_nil_of_length_eq_zero HL.out
          have HT0 := Lib.hid (show T = 0 from HT0.out hl0)
          go_wp2
          go_meet
          exact ⟨by rw [HT0.out], rfl⟩
        · obtain ⟨m, rfl⟩ : ∃ m, n1 = m + 1 := ⟨n1 - 1, by omega⟩
          obtain ⟨r, hr⟩ := fget_of_lt (xs := l) (k := m) (by rw [HL.out]; omega)
          have HTr := Lib.hid (HLast.out r (by rw [HL.out]; exact hr))
          obtain ⟨b, off, rfl, hbl, e1, e2⟩ := recs_elem O1_3.out.sl hr
          clear hr
          go_wp2
          go_meet
          exact ⟨by rw [HTr.out], rfl⟩
      case rest =>
        obtain ⟨rfl, hwc⟩ := hcut
        subst hwc
        by_cases h60 : n1 < 60
        all_goals
          have P1' := P1.out
          first | rw [decide_eq_true h60] at P1' | rw [decide_eq_false h60] at P1'
          have P1b := Lib.hid P1'
          clear P1'
          go_wp2_with (first | (at_builtin; refine wpList_copy _ rfl (.tmp 38) (.tmp 39) _ rfl wc.heap.size 33 i0 (.agg #[.int .i64 0, .string ⟨#[]⟩]) 2 24 Try.underlying25 hi hz0 hz1 hz2 rfl (by decide) (some ⟨wc.heap.size, 0, none⟩) 0 rfl (Own.made wc wc.heap.size 33 2 #[] 0 (Nat.le_refl _) (by unfold maxLen; omega) rfl) wc.heap.size A1 n1 c1 (recs l) rfl (O1_3.out.sl.alloc (Nat.le_refl _) _) (by rw [recs_len, HL.out]) (recs_one _) (by unfold maxLen; omega) (by omega) (by simp) ?_; intro A11 c11 row w11 o11 g11 r11 d11; have O11 := Lib.hid o11; have B11 := Lib.hid (below_at ((Below.refl wc.heap.size wc).alloc (Nat.le_refl _) _) (by simp) g11 r11 (fun a ha => by injection ha with ha; subst ha; exact Nat.le_refl _)); clear o11 g11 r11 d11) | (at_builtin; refine wpList_app _ rfl (.tmp 40) (.tmp 43) _ rfl wc.heap.size 33 i0 (.agg #[.int .i64 0, .string ⟨#[]⟩]) 2 24 Try.underlying25 hi hz0 hz1 hz2 rfl (by decide) A11 n1 c11 (recs l) rfl (O11.out.alloc _) (w11.heap.size + 1) (some ⟨w11.heap.size, 0, none⟩) 1 1 (recs [(T, ⟨#[]⟩)]) rfl (sl_new rfl) rfl (recs_one _) (by unfold maxLen; omega) (by omega) (by have := B11.out.size; simp; omega) ?_; intro A12 c12 row w12 o12 g12 r12 d12; have O12 := Lib.hid (own_rapp o12); have B12 := Lib.hid (below_at (B11.out.alloc B11.out.size _) (by have := B11.out.size; simp; omega) g12 r12 (fun a ha => (O11.out.blk a ha).1)); clear o12 g12 r12 d12) | (at_builtin; refine wpList_copy _ rfl (.tmp 45) (.tmp 46) _ rfl w12.heap.size 33 i0 (.agg #[.int .i64 0, .string ⟨#[]⟩]) 2 24 Try.underlying25 hi hz0 hz1 hz2 rfl (by decide) (some ⟨w12.heap.size, 0, none⟩) 0 rfl (Own.made w12 w12.heap.size 33 2 #[] 0 (Nat.le_refl _) (by unfold maxLen; omega) rfl) w12.heap.size A1 n1 c1 (recs l) rfl ((O1_3.out.below B12.out (Nat.le_refl _)).sl.alloc (Nat.le_refl _) _) (by rw [recs_len, HL.out]) (recs_one _) (by unfold maxLen; omega) (by omega) (by simp) ?_; intro A13 c13 row w13 o13 g13 r13 d13; have O13 := Lib.hid o13; have B13 := Lib.hid (below_at ((Below.refl w12.heap.size w12).alloc (Nat.le_refl _) _) (by simp) g13 r13 (fun a ha => by injection ha with ha; subst ha; exact Nat.le_refl _)); clear o13 g13 r13 d13) | (at_builtin; refine wpList_app _ rfl (.tmp 47) (.tmp 51) _ rfl w12.heap.size 33 i0 (.agg #[.int .i64 0, .string ⟨#[]⟩]) 2 24 Try.underlying25 hi hz0 hz1 hz2 rfl (by decide) A13 n1 c13 (recs l) rfl (O13.out.alloc _) (w13.heap.size + 1) (some ⟨w13.heap.size, 0, none⟩) 1 1 (recs [(T - 1, ⟨#[]⟩)]) rfl (sl_new rfl) rfl (recs_one _) (by unfold maxLen; omega) (by omega) (by have := B13.out.size; simp; omega) ?_; intro A14 c14 row w14 o14 g14 r14 d14; have O14 := Lib.hid (own_rapp o14); have B14 := Lib.hid (below_at (B13.out.alloc B13.out.size _) (by have := B13.out.size; simp; omega) g14 r14 (fun a ha => (O13.out.blk a ha).1)); clear o14 g14 r14 d14))
          refine (icap_valid_eq P1b.out _ _ _ _ (O12.out.below B14.out (Nat.le_refl _)).sl LX.out (by omega) TX.out).mono ?_
          rintro e w15 ⟨rfl, b15⟩
          have O15 := Lib.hid (O14.out.below b15 (Nat.le_refl _))
          have B15 := Lib.hid (bstep (bstep (bstep B3.out B12.out B3.out.size) B14.out (Nat.le_trans B3.out.size B12.out.size)) b15 (Nat.le_trans (Nat.le_trans B3.out.size B12.out.size) B14.out.size))
          clear b15
          go_wp2_with fail
          refine (icap_valid_eq P2.out _ _ _ _ O15.out.sl LY.out (by omega) TY.out).mono ?_
          rintro e w16 ⟨rfl, b16⟩
          go_wp2
          go_ret
          first | exact ⟨rfl, bstep B15.out b16 B15.out.size⟩ | exact ⟨ret_bool (by simp; omega), bstep B15.out b16 B15.out.size⟩
    · have h1 : capB l = false := by simpa using h1
      go_wp2_with fail
      refine (icap_valid_eq h1 _ _ _ _ O1_1.out.sl HL.out (by omega) HO.out.txts).mono ?_
      rintro e w2 ⟨rfl, b2⟩
      have O1_2 := Lib.hid (O1_1.out.below b2 (Nat.le_refl _))
      have s2 := b2.size
      have B2 := Lib.hid (bstep B1.out b2 B1.out.size)
      have le2 : w1.heap.size ≤ w2.heap.size := by simpa using s2
      clear s2
      clear b2
      go_wp2_with fail
      refine (scap_valid_eq h1 _ _ _ _ O1_2.out.sl HL.out (by omega) HO.out.txts).mono ?_
      rintro e w3 ⟨rfl, b3⟩
      have O1_3 := Lib.hid (O1_2.out.below b3 (Nat.le_refl _))
      have s3 := b3.size
      have B3 := Lib.hid (bstep B2.out b3 B2.out.size)
      have le3 : w2.heap.size ≤ w3.heap.size := by simpa using s3
      clear s3
      clear b3
      go_wp2
      go_ret
      exact ⟨rfl, B3.out⟩
end Go.Proofs.Ytmphkogaclfjmaa
