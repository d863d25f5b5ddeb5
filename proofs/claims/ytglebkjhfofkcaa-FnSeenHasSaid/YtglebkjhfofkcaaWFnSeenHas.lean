/-
  The walk of 'FnSeenHas'. Condition: the code is a slice of bytes.
-/
import Derived.Test.YtglebkjhfofkcaaWFnSeenAddFar
namespace Go.Proofs.Ytglebkjhfofkcaa
open Go.ChangeShapes Go.WideShapes Go.ChangeAt Go.RowKit
set_option linter.unusedVariables false
theorem svalid_eq {cum : Int} {zs : List Int} {v : Bool} (hv : seenOk cum zs = v) (A : Option Addr) (n c : Nat) (w : World) (hs : Sl w w.heap.size A (ints zs)) (hn : zs.length = n) (hm : n ≤ 9223372036854775807) :
    Calls Try.prog 32 #[.agg #[.int .i64 cum, .slice A n c]] w fun e w' => e = .returned (.bool v) ∧ Below w.heap.size w w' :=
  (sseen_valid cum A n c zs w hs hn hm).mono fun _ _ ⟨he, hb⟩ => ⟨by rw [he, hv], hb⟩
theorem draw_seen_has (A0 : Option Addr) (n0 c0 : Nat) (w : World) (h : Bts w A0 n0 c0) : Calls Try.prog 44 #[.slice A0 n0 c0] w (PairD w) := by
  have H := Lib.hid (h.below ((Below.refl _ w).alloc (Nat.le_refl _) (.cells #[.int .i64 0, .slice none 0 0] 26))); clear h
  go_enter Try.func44, Try.ntmps44
  go_wp2_with fail
  refine (draw_seen_add _ _ _ _ H.out).mono ?_
  rintro e w1 ⟨cum, A, n, c, zs, tsn, rfl, hzl, hn1, o1, b1'⟩
  obtain ⟨q1, z1, b1⟩ := boxed b1'
  have Q1 := Lib.hid q1
  have O1 := Lib.hid o1
  have B1 := Lib.hid b1
  have y0 := q1.get 0 rfl
  have y1 := q1.get 1 rfl
  have yf0 := q1.frozen 0
  have yf1 := q1.frozen 1
  have hl1 := q1.lt
  clear q1 b1 b1' o1
  go_wp2
  refine bodyPost_ret (v := .tuple #[.agg #[.int .i64 cum, .slice A n c], .int .i64 tsn]) (by simp [results, Try.results44, go_sem, y0, y1]) rfl ?_
  exact ⟨cum, A, n, c, zs, tsn, rfl, hzl, hn1, (((O1.out.setLow (by simp) _).setLow (by simp) _).lower (by simp)), (B1.out.setCell (by simp) _).setCell (by simp) _⟩
set_option maxHeartbeats 1600000 in
theorem walkFnSeenHas (A : Option Addr) (n c : Nat) (w : World) (h : Bts w A n c) :
    Calls Try.prog 8 #[.slice A n c] w fun e w' => e = .returned (.bool true) ∧ Below w.heap.size w w' := by
  have hle := h.le
  have H := Lib.hid h; clear h
  by_cases hn : 1048576 < n
  · go_enter Try.func8, Try.ntmps8
    go_wp2
    go_ret
    exact ⟨rfl, Below.refl _ _⟩
  · go_enter Try.func8, Try.ntmps8
    go_wp2_with fail
    refine (draw_seen_has _ _ _ _ H.out).mono ?_
    rintro e w1 ⟨cum, A1, n1, c1, zs, tsn, rfl, hzl, hn1, o1, b1⟩
    subst hzl
    have O1 := Lib.hid o1
    have B1 := Lib.hid b1
    obtain ⟨K, hK⟩ : ∃ K, K = seenHas cum zs tsn := ⟨_, rfl⟩
    clear o1 b1
    go_wp2_with fail
    refine (iseen_has_eq hK.symm _ _ _ _ ((O1.out.sl.alloc (Nat.le_refl _) _).more (by simp)) rfl (by omega)).mono ?_
    rintro e w2 ⟨rfl, b2'⟩
    obtain ⟨q2, z2, b2⟩ := boxed b2'
    have O12 := Lib.hid (O1.out.below b2 (Nat.le_refl _))
    have Q2 := Lib.hid q2
    have x0 := q2.get 0 rfl
    have x1 := q2.get 1 rfl
    have B2 := Lib.hid (bstep B1.out b2 B1.out.size)
    clear b2' b2 q2
    go_wp2_with fail
    refine (sseen_has _ _ _ _ zs _ _ O12.out.sl rfl (by omega)).mono ?_
    rintro e w3 ⟨rfl, b3⟩
    rw [← hK]
    have O13 := Lib.hid (O12.out.below b3 (Nat.le_refl _))
    have Qs := Q2.out.below b3 Q2.out.lt
    have QS := Lib.hid Qs
    have x0 := Qs.get 0 rfl
    have x1 := Qs.get 1 rfl
    have B3 := Lib.hid (bstep B2.out b3 B2.out.size)
    clear b3 Qs
    simp only [List.getElem_toArray, List.getElem_cons_zero, List.getElem_cons_succ] at x0 x1
    by_cases h1 : seenOk cum zs = true
    · by_cases h2 : okB tsn = true
      · have k1 := (seenOk_true h1).2
        rw [seenHas_ok h1 h2] at hK
        go_wp2_with fail
        refine (svalid_eq h1 _ _ _ _ O13.out.sl rfl (by omega)).mono ?_
        rintro e w4 ⟨rfl, b4⟩
        have Qs := QS.out.below b4 QS.out.lt
        have QS4 := Lib.hid Qs
        have x0 := Qs.get 0 rfl
        have x1 := Qs.get 1 rfl
        have O14 := Lib.hid (O13.out.below b4 (Nat.le_refl _))
        have B4 := Lib.hid (bstep B3.out b4 B3.out.size)
        clear b4 Qs
        simp only [List.getElem_toArray, List.getElem_cons_zero, List.getElem_cons_succ] at x0 x1
        by_cases h5 : sdiff cum tsn ≤ 0
        · have hK1 : K = true := by rw [hK]; simp [h5]
          clear hK
          subst hK1
          go_wp2_with (first | (go_at_call 45; refine (serial_in_self _ _).mono ?_; rintro e w' ⟨rfl, rfl⟩; rw [h2]) | (go_at_call 46; refine (idiff_ok _ _ k1 h2 _).mono ?_; rintro e w' ⟨rfl, rfl⟩))
          all_goals
            go_ret
            exact ⟨rfl, B4.out⟩
        · have hK1 : hasB zs (sdiff cum tsn) = K := by rw [hK]; simp [h5]
          clear hK
          go_wp2_with (first | (go_at_call 45; refine (serial_in_self _ _).mono ?_; rintro e w' ⟨rfl, rfl⟩; rw [h2]) | (go_at_call 46; refine (idiff_ok _ _ k1 h2 _).mono ?_; rintro e w' ⟨rfl, rfl⟩) | (go_at_call 47; refine (hasint_any _ _ _ zs _ _ O14.out.sl rfl (by omega)).mono ?_; rintro e w' ⟨rfl, rfl⟩; rw [hK1]))
          all_goals
            go_ret
            exact ⟨ret_bool (by simp), B4.out⟩
      · have h2 : okB tsn = false := by simpa using h2
        go_wp2_with fail
        refine (svalid_eq h1 _ _ _ _ O13.out.sl rfl (by omega)).mono ?_
        rintro e w4 ⟨rfl, b4⟩
        have B4 := Lib.hid (bstep B3.out b4 B3.out.size)
        go_wp2_with (go_at_call 45; refine (serial_in_self _ _).mono ?_; rintro e w' ⟨rfl, rfl⟩; rw [h2])
        all_goals
          go_ret
          exact ⟨ret_bool (by simp), B4.out⟩
    · have h1 : seenOk cum zs = false := by simpa using h1
      go_wp2_with fail
      refine (svalid_eq h1 _ _ _ _ O13.out.sl rfl (by omega)).mono ?_
      rintro e w4 ⟨rfl, b4⟩
      have B4 := Lib.hid (bstep B3.out b4 B3.out.size)
      go_wp2
      all_goals
        go_ret
        exact ⟨ret_bool (by simp), B4.out⟩
end Go.Proofs.Ytglebkjhfofkcaa
