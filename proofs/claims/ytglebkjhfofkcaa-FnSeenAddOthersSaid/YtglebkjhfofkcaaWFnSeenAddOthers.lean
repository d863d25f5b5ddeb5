/-
  The walk of 'FnSeenAddOthers'. Condition: the code is a slice of bytes.
-/
import Derived.Test.YtglebkjhfofkcaaWFnSeenAddFar
import Derived.Test.YtglebkjhfofkcaaSeenQ
import Derived.Test.YtglebkjhfofkcaaSame
import Derived.Test.YtglebkjhfofkcaaDrawS2
import Derived.Deep.RegionHeld3
namespace Go.Proofs.Ytglebkjhfofkcaa
open Go.ChangeShapes Go.WideShapes Go.ChangeAt Go.RowKit
set_option linter.unusedVariables false
set_option maxHeartbeats 1600000 in
theorem walkFnSeenAddOthers (A : Option Addr) (n c : Nat) (w : World) (h : Bts w A n c) :
    Calls Try.prog 18 #[.slice A n c] w fun e w' => e = .returned (.bool true) ∧ Below w.heap.size w w' := by
  have hle := h.le
  have H := Lib.hid h; clear h
  by_cases hn : 1048576 < n
  · go_enter Try.func18, Try.ntmps18
    go_wp2
    go_ret
    exact ⟨rfl, Below.refl _ _⟩
  · go_enter Try.func18, Try.ntmps18
    go_wp2_with fail
    refine (draw_seen_add _ _ _ _ H.out).mono ?_
    rintro e w1 ⟨cum, A1, n1, c1, zs, tsn, rfl, hzl, hn1, o1, b1⟩
    subst hzl
    have O1 := Lib.hid o1
    have B1 := Lib.hid b1
    have HEL := Lib.hid (sa_short cum zs tsn (by omega))
    obtain ⟨C, hC⟩ : ∃ C, C = saCum cum zs tsn := ⟨_, rfl⟩
    obtain ⟨E, hE⟩ : ∃ E, E = saExtra cum zs tsn := ⟨_, rfl⟩
    obtain ⟨K, hK⟩ : ∃ K, K = saCode cum zs tsn := ⟨_, rfl⟩
    have hcases := Lib.hid (fun (h : saCode cum zs tsn = 0) => And.intro (sa0_parts h) (others_pure h))
    have ISA := Lib.hid (fun (A : Option Addr) (n c : Nat) (w : World) hs hn hm => iseen_add cum A n c zs tsn w hs hn hm)
    have SSA := Lib.hid (fun (A : Option Addr) (n c : Nat) (w : World) hs hn hm => sseen_add cum A n c zs tsn w hs hn hm)
    unfold SeenAddP at ISA SSA
    rw [← hC, ← hE, ← hK] at ISA SSA hcases
    rw [← hE] at HEL
    clear o1 b1 hC hE hK
    go_wp2_with fail
    refine (ISA.out _ _ _ _ ((O1.out.sl.alloc (Nat.le_refl _) _).more (by simp)) rfl (by omega)).mono ?_
    rintro e w2 ⟨A2, c2, rfl, o2, b2'⟩
    obtain ⟨q2, z2, b2⟩ := boxed b2'
    have O2 := Lib.hid o2
    have O12 := Lib.hid (O1.out.below b2 (Nat.le_refl _))
    have Q2 := Lib.hid q2
    have x0 := q2.get 0 rfl
    have x1 := q2.get 1 rfl
    have B2 := Lib.hid (bstep B1.out b2 B1.out.size)
    clear o2 b2' b2 q2
    go_wp2_with fail
    refine (SSA.out _ _ _ _ ((O12.out.sl.alloc (Nat.le_refl _) _).more (by simp)) rfl (by omega)).mono ?_
    rintro e w3 ⟨A3, c3, rfl, o3, b3'⟩
    obtain ⟨q3, z3, b3⟩ := boxed b3'
    have O3 := Lib.hid o3
    have O13 := Lib.hid (O12.out.below b3 (Nat.le_refl _))
    have O23 := Lib.hid (O2.out.below b3 (Nat.le_refl _))
    have Qs := Q2.out.below b3 Q2.out.lt
    have QS := Lib.hid Qs
    have QO := Lib.hid q3
    have x0 := Qs.get 0 rfl
    have x1 := Qs.get 1 rfl
    have y0 := q3.get 0 rfl
    have y1 := q3.get 1 rfl
    have B3 := Lib.hid (bstep B2.out b3 B2.out.size)
    clear o3 b3' b3 q3 Qs
    go_wp2_with fail
    refine (same_seen _ _ _ _ _ _ E _ ((O23.out.sl.alloc (Nat.le_refl _) _).more (by simp)) ((O3.out.sl.alloc (Nat.le_refl _) _).more (by simp)) rfl HEL.out).mono ?_
    rintro e w4 ⟨rfl, b4'⟩
    have B34 := Lib.hid b4'
    obtain ⟨q4, z4, b4⟩ := boxed b4'
    have Qs := QS.out.below b4 QS.out.lt
    have Qo := QO.out.below b4 QO.out.lt
    have QS4 := Lib.hid Qs
    have QO4 := Lib.hid Qo
    have O14 := Lib.hid (O13.out.below b4 (Nat.le_refl _))
    have O24 := Lib.hid (O23.out.below b4 (Nat.le_refl _))
    have O34 := Lib.hid ((O3.out.below (bstep ((Below.refl _ w3).alloc (Nat.le_refl _) _) (B34.out) (by simp)) (Nat.le_refl _)))
    have x0 := Qs.get 0 rfl
    have x1 := Qs.get 1 rfl
    have y0 := Qo.get 0 rfl
    have y1 := Qo.get 1 rfl
    have v0 := q4.get 0 rfl
    have v1 := q4.get 1 rfl
    have B4 := Lib.hid (bstep B3.out b4 B3.out.size)
    clear b4 b4' q4 Qs Qo
    simp only [List.getElem_toArray, List.getElem_cons_zero, List.getElem_cons_succ] at x0 x1 y0 y1 v0 v1
    by_cases h3 : K = 0
    · obtain ⟨⟨p1, p2, p3, p4, p5⟩, p6⟩ := hcases.out h3
      have hc := (seenOk_true p1).2
      subst h3
      have P6 := Lib.hid p6
      clear hcases p6 p1 p2 p3 p4 p5 ISA SSA
      go_wp2_with fail
      clear x0 x1 y0 y1 v0 v1
      go_loopw [9] (fun i wr => ∃ j : Int, -3 ≤ j ∧ j ≤ 17 ∧ i = .int .i64 j ∧ Below w4.heap.size w4 wr) (fun i _ => (17 - intOf i).toNat)
      case atStart => exact ⟨-3, by omega, by omega, rfl, Below.refl _ _⟩
      case round =>
        obtain ⟨j, hj0, hj1, rfl, hb⟩ := hrel
        have QSr := Lib.hid (QS4.out.below hb QS4.out.lt)
        have QOr := Lib.hid (QO4.out.below hb QO4.out.lt)
        have O1r := Lib.hid (O14.out.below hb (Nat.le_refl _))
        have O2r := Lib.hid (O24.out.below hb (Nat.le_refl _))
        have BR := Lib.hid hb
        have x0 : wr.cell? ⟨w1.heap.size, 0, none⟩ = some (.int .i64 cum) := QSr.out.get 0 rfl
        have x1 : wr.cell? ⟨w1.heap.size, 1, none⟩ = some (.slice A1 zs.length c1) := QSr.out.get 1 rfl
        have y0 : wr.cell? ⟨w2.heap.size, 0, none⟩ = some (.int .i64 C) := QOr.out.get 0 rfl
        have y1 : wr.cell? ⟨w2.heap.size, 1, none⟩ = some (.slice A2 E.length c2) := QOr.out.get 1 rfl
        clear hb
        by_cases hj : j ≤ 16
        · have HP := Lib.hid (fun hne => P6.out j (by omega) hj hne)
          go_wp2_with (go_at_call 25; refine (iadd_any _ _ _).mono ?_; rintro e w' ⟨rfl, rfl⟩)
          generalize sadd cum j = x at HP ⊢
          by_cases hx : x = tsn
          · subst hx
            clear HP
            have e1 : (x == x) = true := by simp
            have e2 : (x != x) = false := by simp
            go_quiet (fail)
            all_goals
              go_wp2
              go_roundw
              case rel => exact ⟨j + 1, by omega, by omega, by go_num, below_drewN BR.out _⟩
              case measure => simp [intOf]; omega
          · have hp := HP.out hx
            have e1 : (x == tsn) = false := by simpa using hx
            have e2 : (x != tsn) = true := by simpa using hx
            have HV := Lib.hid hp
            obtain ⟨v, hv⟩ : ∃ v, v = seenHas cum zs x := ⟨_, rfl⟩
            have HV2 := Lib.hid hv
            clear hx HP hp hv
            go_region_held3 (fun w' => w'.cell? ⟨w1.heap.size, 0, none⟩ = some (.int .i64 cum) ∧ w'.cell? ⟨w1.heap.size, 1, none⟩ = some (.slice A1 zs.length c1) ∧ w'.cell? ⟨w2.heap.size, 0, none⟩ = some (.int .i64 C) ∧ w'.cell? ⟨w2.heap.size, 1, none⟩ = some (.slice A2 E.length c2)) (first | exact ⟨x0, x1, y0, y1⟩ | exact ⟨x0', x1', y0', y1'⟩ | exact ⟨x0'', x1'', y0'', y1''⟩ | go_keep)
              (first
                | (go_at_call 24; (with_reducible refine (iseen_has_eq HV2.out.symm _ _ _ _ O1r.out.drew.sl rfl (by omega)).mono ?_); rintro e w5 ⟨rfl, b5⟩; have QS5 := Lib.hid (QSr.out.drew.below b5 QSr.out.lt); have QO5 := Lib.hid (QOr.out.drew.below b5 QOr.out.lt); have O25 := Lib.hid (O2r.out.drew.below b5 (Nat.le_refl _)); have B5 := Lib.hid (bstep BR.out.drew b5 BR.out.size); have x0' : w5.cell? ⟨w1.heap.size, 0, none⟩ = some (.int .i64 cum) := QS5.out.get 0 rfl; have x1' : w5.cell? ⟨w1.heap.size, 1, none⟩ = some (.slice A1 zs.length c1) := QS5.out.get 1 rfl; have y0' : w5.cell? ⟨w2.heap.size, 0, none⟩ = some (.int .i64 C) := QO5.out.get 0 rfl; have y1' : w5.cell? ⟨w2.heap.size, 1, none⟩ = some (.slice A2 E.length c2) := QO5.out.get 1 rfl; clear b5)
                | (go_at_call 24; (with_reducible refine (iseen_has_eq (HV.out.trans HV2.out.symm) _ _ _ _ O2r.out.drew.sl rfl HEL.out).mono ?_); rintro e w5 ⟨rfl, b5⟩; have QS5 := Lib.hid (QSr.out.drew.below b5 QSr.out.lt); have QO5 := Lib.hid (QOr.out.drew.below b5 QOr.out.lt); have O15 := Lib.hid (O1r.out.drew.below b5 (Nat.le_refl _)); have B5 := Lib.hid (bstep BR.out.drew b5 BR.out.size); have x0' : w5.cell? ⟨w1.heap.size, 0, none⟩ = some (.int .i64 cum) := QS5.out.get 0 rfl; have x1' : w5.cell? ⟨w1.heap.size, 1, none⟩ = some (.slice A1 zs.length c1) := QS5.out.get 1 rfl; have y0' : w5.cell? ⟨w2.heap.size, 0, none⟩ = some (.int .i64 C) := QO5.out.get 0 rfl; have y1' : w5.cell? ⟨w2.heap.size, 1, none⟩ = some (.slice A2 E.length c2) := QO5.out.get 1 rfl; clear b5)
                | (go_at_call 24; (with_reducible refine (iseen_has_eq (HV.out.trans HV2.out.symm) _ _ _ _ O25.out.sl rfl HEL.out).mono ?_); rintro e w6 ⟨rfl, b6⟩; have B6 := Lib.hid (bstep B5.out b6 B5.out.size); have QS6 := Lib.hid (QS5.out.below b6 QS5.out.lt); have QO6 := Lib.hid (QO5.out.below b6 QO5.out.lt); have x0'' : w6.cell? ⟨w1.heap.size, 0, none⟩ = some (.int .i64 cum) := QS6.out.get 0 rfl; have x1'' : w6.cell? ⟨w1.heap.size, 1, none⟩ = some (.slice A1 zs.length c1) := QS6.out.get 1 rfl; have y0'' : w6.cell? ⟨w2.heap.size, 0, none⟩ = some (.int .i64 C) := QO6.out.get 0 rfl; have y1'' : w6.cell? ⟨w2.heap.size, 1, none⟩ = some (.slice A2 E.length c2) := QO6.out.get 1 rfl; clear b6)
                | (go_at_call 24; (with_reducible refine (iseen_has_eq HV2.out.symm _ _ _ _ O15.out.sl rfl (by omega)).mono ?_); rintro e w6 ⟨rfl, b6⟩; have B6 := Lib.hid (bstep B5.out b6 B5.out.size); have QS6 := Lib.hid (QS5.out.below b6 QS5.out.lt); have QO6 := Lib.hid (QO5.out.below b6 QO5.out.lt); have x0'' : w6.cell? ⟨w1.heap.size, 0, none⟩ = some (.int .i64 cum) := QS6.out.get 0 rfl; have x1'' : w6.cell? ⟨w1.heap.size, 1, none⟩ = some (.slice A1 zs.length c1) := QS6.out.get 1 rfl; have y0'' : w6.cell? ⟨w2.heap.size, 0, none⟩ = some (.int .i64 C) := QO6.out.get 0 rfl; have y1'' : w6.cell? ⟨w2.heap.size, 1, none⟩ = some (.slice A2 E.length c2) := QO6.out.get 1 rfl; clear b6))
            all_goals
              go_wp2
              go_roundw
              case rel => exact ⟨j + 1, by omega, by omega, by go_num, B6.out⟩
              case measure => simp [intOf]; omega
        · go_wp2
          go_ret
          exact ⟨rfl, bstep B4.out BR.out B4.out.size⟩
    · have k7 : (K == 0) = false := by simp [h3]
      go_wp2_with fail
      refine (same_seen _ _ _ _ _ _ E _ (O24.out.sl) (O34.out.sl) rfl HEL.out).mono ?_
      rintro e w5 ⟨rfl, b5⟩
      go_wp2
      go_ret
      exact ⟨ret_bool (by simp), bstep B4.out b5 B4.out.size⟩
end Go.Proofs.Ytglebkjhfofkcaa
