/-
  The walk of 'FnSeenSack'. Condition: the code is a slice of bytes.
-/
import Derived.Test.YtglebkjhfofkcaaSackH
import Derived.Test.YtglebkjhfofkcaaDrawS3
import Derived.Test.YtglebkjhfofkcaaFrame
import Derived.Deep.RegionHeld3
namespace Go.Proofs.Ytglebkjhfofkcaa
open Go.ChangeShapes Go.WideShapes Go.ChangeAt Go.RowKit
set_option linter.unusedVariables false
set_option linter.unusedSimpArgs false
set_option maxHeartbeats 1600000 in
theorem walkFnSeenSack (A : Option Addr) (n c : Nat) (w : World) (h : Bts w A n c) :
    Calls Try.prog 19 #[.slice A n c] w fun e w' => e = .returned (.bool true) ∧ Below w.heap.size w w' := by
  have hle := h.le
  have H := Lib.hid h; clear h
  by_cases hn : 1048576 < n
  · go_enter Try.func19, Try.ntmps19
    go_wp2
    go_ret
    exact ⟨rfl, Below.refl _ _⟩
  · go_enter Try.func19, Try.ntmps19
    go_wp2_with fail
    refine (draw_seen_sack _ _ _ _ H.out).mono ?_
    rintro e w1 ⟨cum, A1, n1, c1, zs, rfl, hzl, hn1, o1, b1⟩
    subst hzl
    have s1 := b1.size
    have B1 := Lib.hid b1
    have hz1 : w.heap.size ≤ w1.heap.size := by simpa using s1
    clear s1
    have O1_1 := Lib.hid o1
    clear b1 o1
    have ISK := Lib.hid (fun (A : Option Addr) (n c : Nat) (w : World) hs hn hm => iseen_sack cum A n c zs w hs hn hm)
    have SSK := Lib.hid (fun (A : Option Addr) (n c : Nat) (w : World) hs hn hm => sseen_sack cum A n c zs w hs hn hm)
    by_cases h1 : seenOk cum zs = true
    · obtain ⟨k1, k2⟩ := gapsOf_ok h1
      have hgl := gapsOf_len zs
      have HSS := Lib.hid (fun x => sackHas_seen h1 x)
      have HC := Lib.hid (seenOk_true h1).2
      have HK := Lib.hid k1
      simp only [skp_yes h1] at ISK SSK
      clear h1 k1 k2
      go_wp2_with fail
      refine (ISK.out _ _ _ _ ((O1_1.out.sl.alloc (Nat.le_refl _) _).more (by simp)) rfl (by omega)).mono ?_
      rintro e w2 ⟨A2, c2, rfl, o2, b2'⟩
      obtain ⟨q2_0, z2, b2⟩ := boxed b2'
      have O1_2 := Lib.hid (O1_1.out.below b2 (Nat.le_refl _))
      have s2 := b2.size
      have B2 := Lib.hid (bstep B1.out b2 B1.out.size)
      have hz2 : w1.heap.size ≤ w2.heap.size := by simpa using s2
      clear s2
      have Qs_2 := Lib.hid q2_0
      have O2_2 := Lib.hid o2
      clear b2 b2' q2_0 o2
      have ls : w1.heap.size < w2.heap.size := Qs_2.out.lt
      have cs0 : w2.cell? ⟨w1.heap.size, 0, none⟩ = some (.int .i64 cum) := Qs_2.out.get 0 rfl
      have cs1 : w2.cell? ⟨w1.heap.size, 1, none⟩ = some (.slice A1 zs.length c1) := Qs_2.out.get 1 rfl
      go_wp2_with fail
      refine (SSK.out _ _ _ _ ((O1_2.out.sl.alloc (Nat.le_refl _) _).more (by simp)) rfl (by omega)).mono ?_
      rintro e w3 ⟨A3, c3, rfl, o3, b3'⟩
      obtain ⟨q3_0, z3, b3⟩ := boxed b3'
      clear ls cs0 cs1
      have O1_3 := Lib.hid (O1_2.out.below b3 (Nat.le_refl _))
      have Qs_3 := Lib.hid (Qs_2.out.below b3 Qs_2.out.lt)
      have O2_3 := Lib.hid (O2_2.out.below b3 (Nat.le_refl _))
      have s3 := b3.size
      have B3 := Lib.hid (bstep B2.out b3 B2.out.size)
      have hz3 : w2.heap.size ≤ w3.heap.size := by simpa using s3
      clear s3
      have Qout_3 := Lib.hid q3_0
      have O3_3 := Lib.hid o3
      clear b3 b3' q3_0 o3
      have lout : w2.heap.size < w3.heap.size := Qout_3.out.lt
      have cout0 : w3.cell? ⟨w2.heap.size, 0, none⟩ = some (.int .i64 cum) := Qout_3.out.get 0 rfl
      have cout1 : w3.cell? ⟨w2.heap.size, 1, none⟩ = some (.slice A2 (gapsOf zs).length c2) := Qout_3.out.get 1 rfl
      go_wp2_with fail
      refine (same_sack _ _ _ _ _ _ (gapsOf zs) _ ((O2_3.out.sl.alloc (Nat.le_refl _) _).more (by simp)) ((O3_3.out.sl.alloc (Nat.le_refl _) _).more (by simp)) rfl (by first | omega | simp)).mono ?_
      rintro e w4 ⟨rfl, b4'⟩
      obtain ⟨q4_0, z4, b4⟩ := boxed b4'
      clear lout cout0 cout1
      have O1_4 := Lib.hid (O1_3.out.below b4 (Nat.le_refl _))
      have Qs_4 := Lib.hid (Qs_3.out.below b4 Qs_3.out.lt)
      have O2_4 := Lib.hid (O2_3.out.below b4 (Nat.le_refl _))
      have Qout_4 := Lib.hid (Qout_3.out.below b4 Qout_3.out.lt)
      have O3_4 := Lib.hid (O3_3.out.below b4 (Nat.le_refl _))
      have s4 := b4.size
      have B4 := Lib.hid (bstep B3.out b4 B3.out.size)
      have hz4 : w3.heap.size ≤ w4.heap.size := by simpa using s4
      clear s4
      have Qwant_4 := Lib.hid q4_0
      clear b4 b4' q4_0
      have lout : w2.heap.size < w4.heap.size := Qout_4.out.lt
      have cout0 : w4.cell? ⟨w2.heap.size, 0, none⟩ = some (.int .i64 cum) := Qout_4.out.get 0 rfl
      have cout1 : w4.cell? ⟨w2.heap.size, 1, none⟩ = some (.slice A2 (gapsOf zs).length c2) := Qout_4.out.get 1 rfl
      clear lout cout0 cout1
      go_wp2_with fail
      go_loopw [8] (fun i wr => ∃ j : Int, -3 ≤ j ∧ j ≤ 18 ∧ i = .int .i64 j ∧ Below w4.heap.size w4 wr) (fun i _ => (18 - intOf i).toNat)
      case atStart => exact ⟨-3, by omega, by omega, rfl, Below.refl _ _⟩
      case round =>
        obtain ⟨j, hj0, hj1, rfl, hb⟩ := hrel
        have Qsr := Lib.hid (Qs_4.out.below hb Qs_4.out.lt)
        have Qoutr := Lib.hid (Qout_4.out.below hb Qout_4.out.lt)
        have O1r := Lib.hid (O1_4.out.below hb (Nat.le_refl _))
        have O2r := Lib.hid (O2_4.out.below hb (Nat.le_refl _))
        have BR := Lib.hid hb
        have xc0 : wr.cell? ⟨w1.heap.size, 0, none⟩ = some (.int .i64 cum) := Qsr.out.get 0 rfl
        have xc1 : wr.cell? ⟨w1.heap.size, 1, none⟩ = some (.slice A1 zs.length c1) := Qsr.out.get 1 rfl
        have xc2 : wr.cell? ⟨w2.heap.size, 0, none⟩ = some (.int .i64 cum) := Qoutr.out.get 0 rfl
        have xc3 : wr.cell? ⟨w2.heap.size, 1, none⟩ = some (.slice A2 (gapsOf zs).length c2) := Qoutr.out.get 1 rfl
        clear hb
        by_cases hj : j ≤ 17
        · have hx := okB_mk (sadd_range cum j HC.out)
          go_wp2_with (go_at_call 25; refine (iadd_any _ _ _).mono ?_; rintro e w' ⟨rfl, rfl⟩)
          generalize sadd cum j = x at hx ⊢
          have HV := Lib.hid (HSS.out x)
          obtain ⟨v, hv⟩ : ∃ v, v = seenHas cum zs x := ⟨_, rfl⟩
          have HV2 := Lib.hid hv
          have HX := Lib.hid hx
          clear hv hx
          go_region_held3 (fun w' => w'.cell? ⟨w1.heap.size, 0, none⟩ = some (.int .i64 cum) ∧ w'.cell? ⟨w1.heap.size, 1, none⟩ = some (.slice A1 zs.length c1) ∧ w'.cell? ⟨w2.heap.size, 0, none⟩ = some (.int .i64 cum) ∧ w'.cell? ⟨w2.heap.size, 1, none⟩ = some (.slice A2 (gapsOf zs).length c2)) (first | exact ⟨xc0, xc1, xc2, xc3⟩ | exact ⟨xd0, xd1, xd2, xd3⟩ | exact ⟨xe0, xe1, xe2, xe3⟩ | go_keep)
            (first
              | (go_at_call 24; (with_reducible refine (iseen_has_eq HV2.out.symm _ _ _ _ O1r.out.drew.sl rfl (by omega)).mono ?_); rintro e w5 ⟨rfl, b5⟩; have Qs5 := Lib.hid (Qsr.out.drew.below b5 Qsr.out.lt); have Qout5 := Lib.hid (Qoutr.out.drew.below b5 Qoutr.out.lt); have O15 := Lib.hid (O1r.out.drew.below b5 (Nat.le_refl _)); have O25 := Lib.hid (O2r.out.drew.below b5 (Nat.le_refl _)); have B5 := Lib.hid (bstep BR.out.drew b5 BR.out.size); have xd0 : w5.cell? ⟨w1.heap.size, 0, none⟩ = some (.int .i64 cum) := Qs5.out.get 0 rfl; have xd1 : w5.cell? ⟨w1.heap.size, 1, none⟩ = some (.slice A1 zs.length c1) := Qs5.out.get 1 rfl; have xd2 : w5.cell? ⟨w2.heap.size, 0, none⟩ = some (.int .i64 cum) := Qout5.out.get 0 rfl; have xd3 : w5.cell? ⟨w2.heap.size, 1, none⟩ = some (.slice A2 (gapsOf zs).length c2) := Qout5.out.get 1 rfl; clear b5)
              | (go_at_call 55; (with_reducible refine (isack_has (HV.out.trans HV2.out.symm) HK.out HX.out _ _ _ _ O2r.out.drew.sl rfl (by omega)).mono ?_); rintro e w5 ⟨rfl, b5⟩; have Qs5 := Lib.hid (Qsr.out.drew.below b5 Qsr.out.lt); have Qout5 := Lib.hid (Qoutr.out.drew.below b5 Qoutr.out.lt); have O15 := Lib.hid (O1r.out.drew.below b5 (Nat.le_refl _)); have O25 := Lib.hid (O2r.out.drew.below b5 (Nat.le_refl _)); have B5 := Lib.hid (bstep BR.out.drew b5 BR.out.size); have xd0 : w5.cell? ⟨w1.heap.size, 0, none⟩ = some (.int .i64 cum) := Qs5.out.get 0 rfl; have xd1 : w5.cell? ⟨w1.heap.size, 1, none⟩ = some (.slice A1 zs.length c1) := Qs5.out.get 1 rfl; have xd2 : w5.cell? ⟨w2.heap.size, 0, none⟩ = some (.int .i64 cum) := Qout5.out.get 0 rfl; have xd3 : w5.cell? ⟨w2.heap.size, 1, none⟩ = some (.slice A2 (gapsOf zs).length c2) := Qout5.out.get 1 rfl; clear b5)
              | (go_at_call 55; (with_reducible refine (isack_has (HV.out.trans HV2.out.symm) HK.out HX.out _ _ _ _ O25.out.sl rfl (by omega)).mono ?_); rintro e w6 ⟨rfl, b6⟩; have Qs6 := Lib.hid (Qs5.out.below b6 Qs5.out.lt); have Qout6 := Lib.hid (Qout5.out.below b6 Qout5.out.lt); have O16 := Lib.hid (O15.out.below b6 (Nat.le_refl _)); have O26 := Lib.hid (O25.out.below b6 (Nat.le_refl _)); have B6 := Lib.hid (bstep B5.out b6 B5.out.size); have xe0 : w6.cell? ⟨w1.heap.size, 0, none⟩ = some (.int .i64 cum) := Qs6.out.get 0 rfl; have xe1 : w6.cell? ⟨w1.heap.size, 1, none⟩ = some (.slice A1 zs.length c1) := Qs6.out.get 1 rfl; have xe2 : w6.cell? ⟨w2.heap.size, 0, none⟩ = some (.int .i64 cum) := Qout6.out.get 0 rfl; have xe3 : w6.cell? ⟨w2.heap.size, 1, none⟩ = some (.slice A2 (gapsOf zs).length c2) := Qout6.out.get 1 rfl; clear b6)
              | (go_at_call 24; (with_reducible refine (iseen_has_eq HV2.out.symm _ _ _ _ O15.out.sl rfl (by omega)).mono ?_); rintro e w6 ⟨rfl, b6⟩; have Qs6 := Lib.hid (Qs5.out.below b6 Qs5.out.lt); have Qout6 := Lib.hid (Qout5.out.below b6 Qout5.out.lt); have O16 := Lib.hid (O15.out.below b6 (Nat.le_refl _)); have O26 := Lib.hid (O25.out.below b6 (Nat.le_refl _)); have B6 := Lib.hid (bstep B5.out b6 B5.out.size); have xe0 : w6.cell? ⟨w1.heap.size, 0, none⟩ = some (.int .i64 cum) := Qs6.out.get 0 rfl; have xe1 : w6.cell? ⟨w1.heap.size, 1, none⟩ = some (.slice A1 zs.length c1) := Qs6.out.get 1 rfl; have xe2 : w6.cell? ⟨w2.heap.size, 0, none⟩ = some (.int .i64 cum) := Qout6.out.get 0 rfl; have xe3 : w6.cell? ⟨w2.heap.size, 1, none⟩ = some (.slice A2 (gapsOf zs).length c2) := Qout6.out.get 1 rfl; clear b6))
          all_goals
            go_wp2
            go_roundw
            case rel => exact ⟨j + 1, by omega, by omega, by go_num, B6.out⟩
            case measure => simp [intOf]; omega
        · go_wp2_with fail
          refine (isack_put _ _ HK.out _ _ _ _ O2r.out.sl rfl).mono ?_
          rintro e w5 ⟨v, rfl, ⟨s, rfl⟩, b5⟩
          have Qs5 := Lib.hid (Qsr.out.below b5 Qsr.out.lt)
          have Qout5 := Lib.hid (Qoutr.out.below b5 Qoutr.out.lt)
          have l1 := Qs5.out.lt
          have l2 := Qout5.out.lt
          have B5 := Lib.hid (bstep (bstep B4.out BR.out B4.out.size) b5 (Nat.le_trans B4.out.size BR.out.size))
          clear b5 xc0 xc1 xc2 xc3
          have xc0 : w5.cell? ⟨w1.heap.size, 0, none⟩ = some (.int .i64 cum) := Qs5.out.get 0 rfl
          have xc1 : w5.cell? ⟨w1.heap.size, 1, none⟩ = some (.slice A1 zs.length c1) := Qs5.out.get 1 rfl
          have xc2 : w5.cell? ⟨w2.heap.size, 0, none⟩ = some (.int .i64 cum) := Qout5.out.get 0 rfl
          have xc3 : w5.cell? ⟨w2.heap.size, 1, none⟩ = some (.slice A2 (gapsOf zs).length c2) := Qout5.out.get 1 rfl
          go_wp2
          go_ret
          exact ⟨ret_bool (by simp), B5.out.alloc B5.out.size _⟩
    · have h1 : seenOk cum zs = false := by simpa using h1
      simp only [skp_no h1] at ISK SSK
      clear h1
      go_wp2_with fail
      refine (ISK.out _ _ _ _ ((O1_1.out.sl.alloc (Nat.le_refl _) _).more (by simp)) rfl (by omega)).mono ?_
      rintro e w2 ⟨A2, c2, rfl, o2, b2'⟩
      obtain ⟨q2_0, z2, b2⟩ := boxed b2'
      have O1_2 := Lib.hid (O1_1.out.below b2 (Nat.le_refl _))
      have s2 := b2.size
      have B2 := Lib.hid (bstep B1.out b2 B1.out.size)
      have hz2 : w1.heap.size ≤ w2.heap.size := by simpa using s2
      clear s2
      have Qs_2 := Lib.hid q2_0
      have O2_2 := Lib.hid o2
      clear b2 b2' q2_0 o2
      have ls : w1.heap.size < w2.heap.size := Qs_2.out.lt
      have cs0 : w2.cell? ⟨w1.heap.size, 0, none⟩ = some (.int .i64 cum) := Qs_2.out.get 0 rfl
      have cs1 : w2.cell? ⟨w1.heap.size, 1, none⟩ = some (.slice A1 zs.length c1) := Qs_2.out.get 1 rfl
      go_wp2_with fail
      refine (SSK.out _ _ _ _ ((O1_2.out.sl.alloc (Nat.le_refl _) _).more (by simp)) rfl (by omega)).mono ?_
      rintro e w3 ⟨A3, c3, rfl, o3, b3'⟩
      obtain ⟨q3_0, z3, b3⟩ := boxed b3'
      clear ls cs0 cs1
      have O1_3 := Lib.hid (O1_2.out.below b3 (Nat.le_refl _))
      have Qs_3 := Lib.hid (Qs_2.out.below b3 Qs_2.out.lt)
      have O2_3 := Lib.hid (O2_2.out.below b3 (Nat.le_refl _))
      have s3 := b3.size
      have B3 := Lib.hid (bstep B2.out b3 B2.out.size)
      have hz3 : w2.heap.size ≤ w3.heap.size := by simpa using s3
      clear s3
      have Qout_3 := Lib.hid q3_0
      have O3_3 := Lib.hid o3
      clear b3 b3' q3_0 o3
      have lout : w2.heap.size < w3.heap.size := Qout_3.out.lt
      have cout0 : w3.cell? ⟨w2.heap.size, 0, none⟩ = some (.int .i64 0) := Qout_3.out.get 0 rfl
      have cout1 : w3.cell? ⟨w2.heap.size, 1, none⟩ = some (.slice A2 0 c2) := Qout_3.out.get 1 rfl
      go_wp2_with fail
      refine (same_sack _ _ _ _ _ _ [] _ ((O2_3.out.sl.alloc (Nat.le_refl _) _).more (by simp)) ((O3_3.out.sl.alloc (Nat.le_refl _) _).more (by simp)) rfl (by first | omega | simp)).mono ?_
      rintro e w4 ⟨rfl, b4'⟩
      obtain ⟨q4_0, z4, b4⟩ := boxed b4'
      clear lout cout0 cout1
      have O1_4 := Lib.hid (O1_3.out.below b4 (Nat.le_refl _))
      have Qs_4 := Lib.hid (Qs_3.out.below b4 Qs_3.out.lt)
      have O2_4 := Lib.hid (O2_3.out.below b4 (Nat.le_refl _))
      have Qout_4 := Lib.hid (Qout_3.out.below b4 Qout_3.out.lt)
      have O3_4 := Lib.hid (O3_3.out.below b4 (Nat.le_refl _))
      have s4 := b4.size
      have B4 := Lib.hid (bstep B3.out b4 B3.out.size)
      have hz4 : w3.heap.size ≤ w4.heap.size := by simpa using s4
      clear s4
      have Qwant_4 := Lib.hid q4_0
      clear b4 b4' q4_0
      have lout : w2.heap.size < w4.heap.size := Qout_4.out.lt
      have cout0 : w4.cell? ⟨w2.heap.size, 0, none⟩ = some (.int .i64 0) := Qout_4.out.get 0 rfl
      have cout1 : w4.cell? ⟨w2.heap.size, 1, none⟩ = some (.slice A2 0 c2) := Qout_4.out.get 1 rfl
      have lwant : w3.heap.size < w4.heap.size := Qwant_4.out.lt
      have cwant0 : w4.cell? ⟨w3.heap.size, 0, none⟩ = some (.int .i64 0) := Qwant_4.out.get 0 rfl
      have cwant1 : w4.cell? ⟨w3.heap.size, 1, none⟩ = some (.slice A3 0 c3) := Qwant_4.out.get 1 rfl
      go_wp2_with fail
      refine (same_sack _ _ _ _ _ _ [] _ O2_4.out.sl O3_4.out.sl rfl (by simp)).mono ?_
      rintro e w5 ⟨rfl, b5⟩
      clear lout cout0 cout1 lwant cwant0 cwant1
      have O1_5 := Lib.hid (O1_4.out.below b5 (Nat.le_refl _))
      have Qs_5 := Lib.hid (Qs_4.out.below b5 Qs_4.out.lt)
      have O2_5 := Lib.hid (O2_4.out.below b5 (Nat.le_refl _))
      have Qout_5 := Lib.hid (Qout_4.out.below b5 Qout_4.out.lt)
      have O3_5 := Lib.hid (O3_4.out.below b5 (Nat.le_refl _))
      have Qwant_5 := Lib.hid (Qwant_4.out.below b5 Qwant_4.out.lt)
      have s5 := b5.size
      have B5 := Lib.hid (bstep B4.out b5 B4.out.size)
      have hz5 : w4.heap.size ≤ w5.heap.size := by simpa using s5
      clear s5
      clear b5
      go_wp2
      go_ret
      exact ⟨rfl, B5.out⟩
end Go.Proofs.Ytglebkjhfofkcaa
